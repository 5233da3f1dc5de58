/- Elements of an array that stands in a struct. -/
import Derived.Test.YtemediifhpgdgaaGreatGE
namespace Go.Gsl
set_option linter.unusedVariables false
section
variable {P : Program} {ops : List Oper} {Q : Cont} {n : Nat} {w0 : World} {rest : List Oper} {e : Env} {Rs F : List Res} {ty : TypeId}
theorem runop_indexAo {t et : TypeId} {x y : Operand} {b o m sz : Nat} {k : IntKind} {i : Int} (j off : Nat) [hx : Ev n e x (.pointer (some ⟨b, o, none⟩))] [hy : Ev n e y (.int k i)] [hu : Und P t (.array m et)] [hs : SizeOf P et sz] (h : i = j ∧ j < m ∧ 2 ≤ m) (ho : o + j * sz = off) :
    RunOp P n w0 e Rs (.indexAddr t x y) ty (.pointer (some ⟨b, off, none⟩)) := by
  subst ho
  obtain ⟨rfl, hj, hm⟩ := h
  refine @RunOp.pure P n w0 e Rs _ _ _ ⟨fun op h1 _ w => ?_⟩
  unfold execOp; rw [h1]
  simp [hx.out, hy.out, Instr.indexAt, asIntOf, run_und (t := t), hj, hs.out, add_plain, Instr.sureAddr]
theorem sw_indexAo {d : Nat} {t et : TypeId} {x y : Operand} {b o m sz : Nat} {k : IntKind} {i : Int} {pos : String} {after : Array Edge} (j off : Nat) [hx : Ev n e x (.pointer (some ⟨b, o, none⟩))] [hy : Ev n e y (.int k i)] [hu : Und P t (.array m et)] [hs : SizeOf P et sz] (h : i = j ∧ j < m ∧ 2 ≤ m) (ho : o + j * sz = off)
    (q : SW P ops Q n w0 rest ((d, .pointer (some ⟨b, off, none⟩)) :: e) Rs) : SW P ops Q n w0 ({ dst := some d, op := .indexAddr t x y, type := ty, pos := pos, after := after, guard := none } :: rest) e Rs :=
  sw_op (h := runop_indexAo j off h ho) q
end
end Go.Gsl
