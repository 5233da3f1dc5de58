/- maps.Clone. -/
import Derived.Test.YtccmenekmmlboaaGsl12
import Derived.MapKept
namespace Go.Gsl
set_option linter.unusedVariables false

/-- A function whose body is the model's maps.clone. -/
class Mcl (P : Program) (f : FuncId) : Prop where
  out : ∀ args w, (callFunc f args).run P w = ((Extern.MapsClone.clone args).run P w).andThen fun v w' => .ok (.value v) w'

section
variable {P : Program} {ops : List Oper} {Q : Cont} {n : Nat} {w0 : World} {rest : List Oper} {e : Env} {Rs F : List Res} {ty : TypeId}
instance PureOp.mkIfaceMap (x : Operand) (v : Value) (t kt et : TypeId) [h : Ev n e x v] [hu : Und P t (.map kt et)] : PureOp P n e (.makeInterface t x) ty (.iface t v) :=
  ⟨fun o h1 _ w => by unfold execOp; rw [h1]; simp [h.out, Instr.makeInterface, run_und (t := t)]⟩
instance PureOp.asMap (x : Operand) (v : Value) (xt t kt et : TypeId) [h : Ev n e x (.iface t v)] [hu : Und P t (.map kt et)] : PureOp P n e (.typeAssert x xt t false) ty v :=
  ⟨fun o h1 _ w => by unfold execOp; rw [h1]; simp [h.out, Instr.typeAssert, run_und (t := t)]⟩

theorem run_mclone {w : World} {r : Nat} {es : Array MapEntry} {clock : Nat} (t : TypeId) (hb : w.heap[r]? = some (.map es clock)) :
    (Extern.MapsClone.clone #[.iface t (.map (some r))]).run P w = .ok (.iface t (.map (some w.heap.size))) (w.alloc (.map es clock)) := by
  have e : Extern.MapsClone.clone #[.iface t (.map (some r))] = (getObj r >>= fun o => match o with
      | .map entries clock => (newObj (.map entries clock) >>= fun n => pure (.iface t (.map (some n))))
      | _ => stuck "maps.clone: a map expected") := rfl
  rw [e]
  simp [MapKept.run_getObj_map hb]

theorem sw_mclone {d : Nat} {f : FuncId} {x : Operand} {ts : Array TypeId} {k : IntKind} {b : Nat} {t : TypeId} {g : Int → Option Value} {pos : String} {after : Array Edge} [hm : Mcl P f] [hx : Ev n e x (.iface t (.map (some b)))] [tk : Take Rs b (MapI k b g) F]
    (q : ∀ b', SW P ops Q n w0 rest ((d, .iface t (.map (some b'))) :: e) ((b', MapI k b' g) :: (b, MapI k b g) :: F)) :
    SW P ops Q n w0 ({ dst := some d, op := .call { callee := .value (.func f), args := [x].toArray, argTypes := ts }, type := ty, pos := pos, after := after, guard := none } :: rest) e Rs := by
  intro w hw
  obtain ⟨L, clock, hg, hl, hb, _⟩ := get_map hw tk
  have h1 : (execOp (act n e).eval { dst := some d, op := .call { callee := .value (.func f), args := [x].toArray, argTypes := ts }, type := ty, pos := pos, after := after, guard := none }).run P w = .ok (.value (.iface t (.map (some w.heap.size)))) (w.alloc (.map (entries k L) clock)) := by
    rw [run_call_func (vs := [.iface t (.map (some b))]) rfl (by simp [hx.out]), hm.out, run_mclone t hb]
    rfl
  refine wpM_value rfl h1 ?_
  rw [actM_put]
  exact q w.heap.size _ ((hw.ent tk.ent).new (.map (entries k L) clock) |>.ent (Ent.head fun x hp => ⟨L, clock, ⟨hg, hl⟩, hp⟩))
end
end Go.Gsl
