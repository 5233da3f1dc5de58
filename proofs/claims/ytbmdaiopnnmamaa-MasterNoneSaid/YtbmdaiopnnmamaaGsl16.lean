/- Arrays. -/
import Derived.Test.YtbmdaiopnnmamaaGsl14
namespace Go.Gsl
set_option linter.unusedVariables false

section
variable {P : Program} {ops : List Oper} {Q : Cont} {n : Nat} {w0 : World} {rest : List Oper} {e : Env} {Rs F : List Res} {ty : TypeId}
theorem pure_indexA {t et : TypeId} {x y : Operand} {b off m sz : Nat} {k : IntKind} {i : Int} [hx : Ev n e x (.pointer (some ⟨b, off, none⟩))] [hy : Ev n e y (.int k i)] [hu : Und P t (.array m et)] [hs : SizeOf P et sz] (h : 0 ≤ i ∧ i < m) :
    PureOp P n e (.indexAddr t x y) ty (.pointer (some ⟨b, off + i.toNat * sz, none⟩)) :=
  ⟨fun o h1 _ w => by
    unfold execOp; rw [h1]
    simp [hx.out, hy.out, Instr.indexAt, Instr.sureAddr, asIntOf, run_und (t := t), h, hs.out, Addr.add]⟩
theorem runop_idxA {t et : TypeId} {x y : Operand} {b off m : Nat} {k : IntKind} {i : Int} (j : Nat) [hx : Ev n e x (.pointer (some ⟨b, off, none⟩))] [hy : Ev n e y (.int k i)] [hu : Und P t (.array m et)] [hs : SizeOf P et 1] (h : i = j ∧ j < m) :
    RunOp P n w0 e Rs (.indexAddr t x y) ty (.pointer (some ⟨b, off + j, none⟩)) := by
  have h1 : PureOp P n e (.indexAddr t x y) ty (.pointer (some ⟨b, off + i.toNat * 1, none⟩)) := pure_indexA (by omega)
  rw [show off + i.toNat * 1 = off + j by omega] at h1
  exact @RunOp.pure P n w0 e Rs _ _ _ h1
theorem sw_idxA {d : Nat} {t et : TypeId} {x y : Operand} {b off m : Nat} {k : IntKind} {i : Int} {pos : String} {after : Array Edge} (j : Nat) [hx : Ev n e x (.pointer (some ⟨b, off, none⟩))] [hy : Ev n e y (.int k i)] [hu : Und P t (.array m et)] [hs : SizeOf P et 1] (h : i = j ∧ j < m)
    (q : SW P ops Q n w0 rest ((d, .pointer (some ⟨b, off + j, none⟩)) :: e) Rs) : SW P ops Q n w0 ({ dst := some d, op := .indexAddr t x y, type := ty, pos := pos, after := after, guard := none } :: rest) e Rs :=
  sw_op (h := runop_idxA j h) q
end
end Go.Gsl
