/- Closures; remainders of what is not negative. -/
import Derived.Test.YtbmdaiopnnmamaaGsl8
namespace Go.Gsl
set_option linter.unusedVariables false

section
variable {P : Program} {ops : List Oper} {Q : Cont} {n : Nat} {w0 : World} {l rest : List Oper} {e : Env} {Rs Rs' F G : List Res} {ty : TypeId}

instance PureOp.makeFunc (fn : Fn) (fs cs : List Operand) (vs us : List Value) [h : EvL n e fs vs] [h2 : EvL n e cs us] : PureOp P n e (.makeFunc fn fs.toArray cs.toArray) ty (.func fn vs.toArray us.toArray) :=
  ⟨fun o h1 _ w => by unfold execOp; rw [h1]; simp [Instr.makeFunc, h.out, h2.out]⟩

theorem run_call_value {x : Operand} {f : FuncId} {fs cs : List Value} {args : List Operand} {vs : List Value} {ts : Array TypeId} {o : Oper} (ho : o.op = .call { callee := .value x, args := args.toArray, argTypes := ts }) [hx : Ev n e x (.func (.func f) fs.toArray cs.toArray)] (ha : args.map (act n e).eval = vs) (w : World) :
    (execOp (act n e).eval o).run P w = (callFunc f (fs ++ vs ++ cs).toArray).run P w := by
  unfold execOp
  rw [ho]
  simp [resolve, hx.out, Deferred.ofValue, invoke, ha]

/-- a call of a function value -/
theorem sw_callv {d : Nat} {x : Operand} {f : FuncId} {fs cs : List Value} {args : List Operand} {ts : Array TypeId} {ty : TypeId} {pos : String} {after : Array Edge} {vs : List Value} {ks : List Nat} {rs : List HProp} {Post : List Res → Value → List Res → Prop}
    [hx : Ev n e x (.func (.func f) fs.toArray cs.toArray)] [ha : EvL n e args vs] (hs : Spec P f (fs ++ vs ++ cs) ks rs Post) [hb : Body P f] [hsp : Split Rs ks rs F]
    (k : ∀ v Rs', Post F v Rs' → SW P ops Q n w0 rest ((d, v) :: e) Rs') :
    SW P ops Q n w0 ({ dst := some d, op := .call { callee := .value x, args := args.toArray, argTypes := ts }, type := ty, pos := pos, after := after, guard := none } :: rest) e Rs := by
  intro w hw
  refine wpM_enter rfl (by rw [run_call_value rfl ha.out, hb.out]) (hs w0 F w (hw.ent hsp.ent)) ?_
  rintro x w' ⟨v, Rs', rfl, hp, hw'⟩
  refine ⟨v, rfl, ?_⟩
  rw [actM_put]
  exact k v Rs' hp w' hw'

theorem sw_rem_nn {x y : Operand} {k : IntKind} {a b : Int} {d : Nat} {t t' ty : TypeId} {pos : String} {after : Array Edge} [hx : Ev n e x (.int k a)] [hy : Ev n e y (.int k b)] (h : 0 ≤ a ∧ 0 < b)
    (q : SW P ops Q n w0 rest ((d, .int k (a % b)) :: e) Rs) : SW P ops Q n w0 ({ dst := some d, op := .binOp .rem t x y t', type := ty, pos := pos, after := after, guard := none } :: rest) e Rs :=
  sw_rem (by omega) (by rw [Int.tmod_eq_emod_of_nonneg h.1]; exact q)

theorem runop_rem_nn {x y : Operand} {k : IntKind} {a b : Int} {t t' : TypeId} [hx : Ev n e x (.int k a)] [hy : Ev n e y (.int k b)] (h : 0 ≤ a ∧ 0 < b) : RunOp P n w0 e Rs (.binOp .rem t x y t') ty (.int k (a % b)) := by
  rw [← Int.tmod_eq_emod_of_nonneg h.1]
  exact runop_rem (by omega)

theorem sw_load_ro {W : World} {d : Nat} {t : TypeId} {x : Operand} {a : Addr} {v : Value} {pos : String} {after : Array Edge} [h : Ev n e x (.pointer (some a))] [hn : NonAgg P t] [tk : Take Rs 0 (ro W) F] (hc : W.cell? a = some v)
    (q : SW P ops Q n w0 rest ((d, v) :: e) Rs) : SW P ops Q n w0 ({ dst := some d, op := .load t x, type := ty, pos := pos, after := after, guard := none } :: rest) e Rs :=
  sw_op (h := runop_load (ro_cell hc)) q

theorem take_ent {k : Nat} {r : HProp} [t : Take Rs k r F] : Ent Rs ((k, r) :: F) := t.ent
end
end Go.Gsl
