/- Judgements of the walk over resources, and the rules of code. -/
import Derived.Test.YtbmdaiopnnmamaaGsl1
import Derived.TacticsIn
import Derived.RangeFuncLeaves
import Derived.RangeFuncIn
import Derived.RangeFuncCalls
namespace Go.Gsl
set_option linter.unusedVariables false

/-- All that a walk goes on to: the round of a loop over a function in which it stands, if any; the marks of such loops that the activation holds; what is asked at each way out. -/
structure Cont where
  r : Option Nat
  m : List Deferred
  q : Exit → Act → World → Prop
/-- every function, any depth -/
def fz (r : Option Nat) : Fence := { Fence.wide with round := r }

/-- From every world that holds the resources, the list of operations comes to 'Q'. -/
def SW (P : Program) (ops : List Oper) (Q : Cont) (n : Nat) (w0 : World) (l : List Oper) (e : Env) (Rs : List Res) : Prop :=
  ∀ w, Sat w0 w Rs → wpListIn (fz Q.r) 0 P ops.toArray Q.q l (actM Q.m n e) w
def SC (P : Program) (Q : Cont) (n : Nat) (w0 : World) (c : Code) (e : Env) (Rs : List Res) : Prop :=
  ∀ w, Sat w0 w Rs → c.wpIn (fz Q.r) 0 P Q.q (actM Q.m n e) w
def SQ (Q : Cont) (n : Nat) (w0 : World) (x : Exit) (e : Env) (Rs : List Res) : Prop :=
  ∀ w, Sat w0 w Rs → Q.q x (actM Q.m n e) w

/-- first this, then 'y' -/
def Cont.next (P : Program) (y : Code) (Q : Cont) : Cont := ⟨Q.r, Q.m, Exit.then (y.wpIn (fz Q.r) 0 P Q.q) Q.q⟩
def Cont.block (id : Nat) (Q : Cont) : Cont := ⟨Q.r, Q.m, Exit.inBlock id Q.q⟩

section
variable {P : Program} {ops : List Oper} {Q : Cont} {n : Nat} {w0 : World} {l rest : List Oper} {e : Env} {Rs Rs' F : List Res}

/-! ### What an operation yields, the world left alone -/
class RunOp (P : Program) (n : Nat) (w0 : World) (e : Env) (Rs : List Res) (op : Op) (ty : TypeId) (v : outParam Value) : Prop where
  run : ∀ o : Oper, o.op = op → o.type = ty → ∀ w, Sat w0 w Rs → (execOp (act n e).eval o).run P w = .ok (.value v) w

/-- An operation that looks at no memory. -/
class PureOp (P : Program) (n : Nat) (e : Env) (op : Op) (ty : TypeId) (v : outParam Value) : Prop where
  run : ∀ o : Oper, o.op = op → o.type = ty → ∀ w, (execOp (act n e).eval o).run P w = .ok (.value v) w
instance RunOp.pure (op : Op) (ty : TypeId) (v : Value) [h : PureOp P n e op ty v] : RunOp P n w0 e Rs op ty v := ⟨fun o h1 h2 w _ => h.run o h1 h2 w⟩

theorem not_defer {ρ : Operand → Value} {o : Oper} {w w' : World} {x : Next} (h : (execOp ρ o).run P w = .ok x w') (hx : ∀ d, x ≠ .defer d) : ∀ c, o.op ≠ .defer c := by
  intro c hc
  unfold execOp at h
  rw [hc] at h
  simp only [Sem.run_bind] at h
  cases hr : (resolve ρ c o.type).run P w with
  | ok d w1 => rw [hr] at h; simp only [Result.andThen_ok, Sem.run_pure, Result.ok.injEq] at h; exact hx d h.1.symm
  | halt y w1 => rw [hr] at h; simp [Result.andThen] at h

theorem wpM_upon {o : Oper} {a : Act} {w w' : World} {x : Next} {r : Option Nat} {q : Exit → Act → World → Prop} (hg : o.guard = none) (h : (execOp a.eval o).run P w = .ok x w') (hx : ∀ d, x ≠ .defer d)
    (k : o.uponIn (fz r) 0 P a (wpListIn (fz r) 0 P ops.toArray q rest) q (.ok x w')) : wpListIn (fz r) 0 P ops.toArray q (o :: rest) a w := by
  unfold wpListIn
  rw [if_pos (by simp [Region.wanted, hg])]
  unfold Oper.wpIn
  refine ⟨fun _ _ => trivial, ?_⟩
  rw [Oper.semAt_eq _ _ _ (not_defer h hx), h]
  exact k

/-- an operation that yields a value -/
theorem wpM_value {o : Oper} {e : Env} {w w' : World} {v : Value} (hg : o.guard = none) (h : (execOp (act n e).eval o).run P w = .ok (.value v) w')
    (k : wpListIn (fz Q.r) 0 P ops.toArray Q.q rest ((actM Q.m n e).put o.dst v) w') : wpListIn (fz Q.r) 0 P ops.toArray Q.q (o :: rest) (actM Q.m n e) w :=
  wpM_upon hg h (fun _ h => by cases h) k
theorem wpM_skip {o : Oper} {e : Env} {w w' : World} (hg : o.guard = none) (h : (execOp (act n e).eval o).run P w = .ok .skip w')
    (k : wpListIn (fz Q.r) 0 P ops.toArray Q.q rest ((actM Q.m n e).put o.dst undef) w') : wpListIn (fz Q.r) 0 P ops.toArray Q.q (o :: rest) (actM Q.m n e) w :=
  wpM_upon hg h (fun _ h => by cases h) k
theorem callsIn_fz {r : Option Nat} {f : FuncId} {args : Array Value} {w : World} {R : Ending → World → Prop} : CallsIn (fz r) 0 P f args w R ↔ Calls P f args w R := by
  rw [← callsIn_wide (n := 0)]
  cases r with
  | none => exact Iff.rfl
  | some l => exact ⟨fun h => CallsIn.outOfRound (F := Fence.wide) (l := l) h, fun h => CallsIn.inRound (F := Fence.wide) l h⟩
theorem wpM_enter {o : Oper} {e : Env} {w w' : World} {f : FuncId} {args : Array Value} (hg : o.guard = none) (h : (execOp (act n e).eval o).run P w = .ok (.enter f args) w')
    {R : Ending → World → Prop} (hc : Calls P f args w' R)
    (k : ∀ x w'', R x w'' → ∃ v, x = .returned v ∧ wpListIn (fz Q.r) 0 P ops.toArray Q.q rest ((actM Q.m n e).put o.dst v) w'') : wpListIn (fz Q.r) 0 P ops.toArray Q.q (o :: rest) (actM Q.m n e) w := by
  refine wpM_upon hg h (fun _ h => by cases h) ?_
  rw [Oper.uponIn_enter]
  refine ⟨fun h => by simp [fz, Fence.wide] at h, callsIn_fz.2 (Calls.mono hc fun x w'' hx => ?_)⟩
  obtain ⟨v, rfl, hk⟩ := k x w'' hx
  exact hk

theorem sw_nil (h : SQ Q n w0 .normal e Rs) : SW P ops Q n w0 [] e Rs := fun w hw => wpListIn_nil (h w hw)

theorem sw_op {d : Nat} {op : Op} {ty : TypeId} {pos : String} {after : Array Edge} {v : Value} [h : RunOp P n w0 e Rs op ty v]
    (k : SW P ops Q n w0 rest ((d, v) :: e) Rs) : SW P ops Q n w0 ({ dst := some d, op := op, type := ty, pos := pos, after := after, guard := none } :: rest) e Rs := by
  intro w hw
  refine wpM_value rfl (h.run _ rfl rfl w hw) ?_
  rw [actM_put]; exact k w hw

theorem sw_op_ {op : Op} {ty : TypeId} {pos : String} {after : Array Edge} {v : Value} [h : RunOp P n w0 e Rs op ty v]
    (k : SW P ops Q n w0 rest e Rs) : SW P ops Q n w0 ({ dst := none, op := op, type := ty, pos := pos, after := after, guard := none } :: rest) e Rs := by
  intro w hw
  exact wpM_value rfl (h.run _ rfl rfl w hw) (k w hw)

/-- The value that an operation yields, said otherwise. -/
theorem sw_op_as {d : Nat} {op : Op} {ty : TypeId} {pos : String} {after : Array Edge} {v v' : Value} [h : RunOp P n w0 e Rs op ty v] (hv : v = v')
    (k : SW P ops Q n w0 rest ((d, v') :: e) Rs) : SW P ops Q n w0 ({ dst := some d, op := op, type := ty, pos := pos, after := after, guard := none } :: rest) e Rs := by
  subst hv; exact sw_op k

/-! ### Guards -/
class DstAt (ops : List Oper) (j : Nat) (t : outParam Nat) : Prop where out : (ops[j]?).bind (·.dst) = some t
instance DstAt.here (t : Nat) (op : Op) (ty : TypeId) (pos : String) (after : Array Edge) (g : Option (Nat × Bool)) (l : List Oper) : DstAt ({ dst := some t, op := op, type := ty, pos := pos, after := after, guard := g } :: l) 0 t := ⟨rfl⟩
instance DstAt.there (o : Oper) (l : List Oper) (j t : Nat) [h : DstAt l j t] : DstAt (o :: l) (j + 1) t := ⟨by simpa using h.out⟩

theorem yielded_of {j t : Nat} {b : Bool} [hd : DstAt ops j t] [hl : Lk e t (.bool b)] [hn : Lt t n] : yielded ops.toArray (act n e).tmps j = some b := by
  have h1 : (ops.toArray[j]?).bind (·.dst) = some t := by simpa using hd.out
  unfold yielded
  rw [h1]
  simp [act, slots_getElem? n e t hn.out, hl.out]

theorem sw_guard_skip {d : Nat} {op : Op} {ty : TypeId} {pos : String} {after : Array Edge} {j t : Nat} {b c : Bool} [hd : DstAt ops j t] [hl : Lk e t (.bool c)] [hn : Lt t n] [hf : BNe c b]
    (k : SW P ops Q n w0 rest ((d, undef) :: e) Rs) : SW P ops Q n w0 ({ dst := some d, op := op, type := ty, pos := pos, after := after, guard := some (j, b) } :: rest) e Rs := by
  intro w hw
  unfold wpListIn
  rw [if_neg]
  · rw [actM_put]; exact ⟨fun _ _ => trivial, k w hw⟩
  · simp only [Region.wanted, actM_tmps, yielded_of (n := n) (e := e) (ops := ops) (j := j) (t := t) (b := c)]
    have := hf.out
    simpa using this

theorem sw_guard_skip_ {op : Op} {ty : TypeId} {pos : String} {after : Array Edge} {j t : Nat} {b c : Bool} [hd : DstAt ops j t] [hl : Lk e t (.bool c)] [hn : Lt t n] [hf : BNe c b]
    (k : SW P ops Q n w0 rest e Rs) : SW P ops Q n w0 ({ dst := none, op := op, type := ty, pos := pos, after := after, guard := some (j, b) } :: rest) e Rs := by
  intro w hw
  unfold wpListIn
  rw [if_neg]
  · exact ⟨fun _ _ => trivial, k w hw⟩
  · simp only [Region.wanted, actM_tmps, yielded_of (n := n) (e := e) (ops := ops) (j := j) (t := t) (b := c)]
    have := hf.out
    simpa using this

theorem sw_guard_run {dst : Option Nat} {op : Op} {ty : TypeId} {pos : String} {after : Array Edge} {j t : Nat} {b : Bool} [hd : DstAt ops j t] [hl : Lk e t (.bool b)] [hn : Lt t n]
    (k : SW P ops Q n w0 ({ dst := dst, op := op, type := ty, pos := pos, after := after, guard := none } :: rest) e Rs) : SW P ops Q n w0 ({ dst := dst, op := op, type := ty, pos := pos, after := after, guard := some (j, b) } :: rest) e Rs := by
  intro w hw
  have := k w hw
  unfold wpListIn at this ⊢
  rw [if_pos (by simp [Region.wanted])] at this
  rw [if_pos]
  · exact this
  · simp only [Region.wanted, actM_tmps, yielded_of (n := n) (e := e) (ops := ops) (j := j) (t := t) (b := b)]
    simp

/-- What a test says. -/
class BP (b : Bool) (p : outParam Prop) : Prop where out : b = true ↔ p
instance (priority := 10) BP.any (b : Bool) : BP b (b = true) := ⟨Iff.rfl⟩
instance BP.dec (p : Prop) [Decidable p] : BP (decide p) p := ⟨by simp⟩
instance BP.not (b : Bool) (p : Prop) [h : BP b p] : BP (!b) (¬ p) := ⟨by rw [← h.out]; simp⟩

/-- A guard that is not decided: both ways. -/
theorem sw_guard_split {dst : Option Nat} {op : Op} {ty : TypeId} {pos : String} {after : Array Edge} {j t : Nat} {b c : Bool} {p : Prop} [DstAt ops j t] [hl : Lk e t (.bool c)] [hp : BP c p]
    (k1 : p → SW P ops Q n w0 ({ dst := dst, op := op, type := ty, pos := pos, after := after, guard := some (j, b) } :: rest) ((t, .bool true) :: e) Rs)
    (k2 : ¬ p → SW P ops Q n w0 ({ dst := dst, op := op, type := ty, pos := pos, after := after, guard := some (j, b) } :: rest) ((t, .bool false) :: e) Rs) :
    SW P ops Q n w0 ({ dst := dst, op := op, type := ty, pos := pos, after := after, guard := some (j, b) } :: rest) e Rs := by
  intro w hw
  cases c with
  | true => rw [actM_says (e := e) (l := [(t, .bool true)]) ⟨hl.out, trivial⟩]; exact k1 (hp.out.1 rfl) w hw
  | false => rw [actM_says (e := e) (l := [(t, .bool false)]) ⟨hl.out, trivial⟩]; exact k2 (fun h => by have := hp.out.2 h; cases this) w hw

/-! ### Code -/
theorem sc_seq {x y : Code} (h : SC P (Q.next P y) n w0 x e Rs) : SC P Q n w0 (.seq x y) e Rs := fun w hw => wpIn_seq (h w hw)
theorem sc_skip (h : SQ Q n w0 .normal e Rs) : SC P Q n w0 .skip e Rs := fun w hw => wpIn_skip (h w hw)
theorem sc_ret (h : SQ Q n w0 .ret e Rs) : SC P Q n w0 .ret e Rs := fun w hw => wpIn_ret (h w hw)
theorem sc_exit {id : Nat} (h : SQ Q n w0 (.exit id) e Rs) : SC P Q n w0 (.exit id) e Rs := fun w hw => wpIn_exit (h w hw)
theorem sc_block {id : Nat} {c : Code} (h : SC P (Q.block id) n w0 c e Rs) : SC P Q n w0 (.block id c) e Rs := fun w hw => wpIn_block (h w hw)
theorem sc_region {id : Nat} (h : SW P l Q n w0 l e Rs) : SC P Q n w0 (.region id l.toArray false) e Rs := fun w hw => wpIn_region_lit (h w hw)
theorem sc_cond_true {c : Operand} {x y : Code} [hc : Ev n e c (.bool true)] (h : SC P Q n w0 x e Rs) : SC P Q n w0 (.cond c x y) e Rs := fun w hw => wpIn_cond_true hc.out (h w hw)
theorem sc_cond_false {c : Operand} {x y : Code} [hc : Ev n e c (.bool false)] (h : SC P Q n w0 y e Rs) : SC P Q n w0 (.cond c x y) e Rs := fun w hw => wpIn_cond_false hc.out (h w hw)
theorem sc_cond {c : Operand} {x y : Code} {b : Bool} {p : Prop} [hc : Ev n e c (.bool b)] [hp : BP b p] (h1 : p → SC P Q n w0 x e Rs) (h2 : ¬ p → SC P Q n w0 y e Rs) : SC P Q n w0 (.cond c x y) e Rs :=
  fun w hw => wpIn_cond_split hc.out (fun ht => h1 (hp.out.1 ht) w hw) (fun hf => h2 (fun h => by have := hp.out.2 h; rw [hf] at this; cases this) w hw)

theorem sq_then {y : Code} (h : SC P Q n w0 y e Rs) : SQ (Q.next P y) n w0 .normal e Rs := fun w hw => h w hw
theorem sq_then_ret {y : Code} (h : SQ Q n w0 .ret e Rs) : SQ (Q.next P y) n w0 .ret e Rs := fun w hw => h w hw
theorem sq_then_exit {y : Code} {id : Nat} (h : SQ Q n w0 (.exit id) e Rs) : SQ (Q.next P y) n w0 (.exit id) e Rs := fun w hw => h w hw
theorem sq_block {id : Nat} (h : SQ Q n w0 .normal e Rs) : SQ (Q.block id) n w0 .normal e Rs := fun w hw => h w hw
theorem sq_block_ret {id : Nat} (h : SQ Q n w0 .ret e Rs) : SQ (Q.block id) n w0 .ret e Rs := fun w hw => h w hw
theorem sq_block_exit {id : Nat} (h : SQ Q n w0 .normal e Rs) : SQ (Q.block id) n w0 (.exit id) e Rs := fun w hw => by
  have := h w hw
  show Exit.inBlock id Q.q (.exit id) (actM Q.m n e) w
  simpa [Exit.inBlock] using this
theorem sq_block_past {id j : Nat} [hf : EvB (Nat.beq j id) false] (h : SQ Q n w0 (.exit j) e Rs) : SQ (Q.block id) n w0 (.exit j) e Rs := fun w hw => by
  have h1 := Nat.ne_of_beq_eq_false hf.out
  have := h w hw
  show Exit.inBlock id Q.q (.exit j) (actM Q.m n e) w
  simpa [Exit.inBlock, h1] using this

/-! ### A loop -/
theorem wpIn_loop_ghost {α : Type} {F : Fence} {k0 : Nat} {q : Exit → Act → World → Prop} {c : Code} {a : Act} {w : World} (I : α → Act → World → Prop) (m : α → Nat) (x0 : α) (h0 : I x0 a w)
    (round : ∀ x a w, I x a w → c.wpIn F k0 P (Exit.then (fun a' w' => ∃ x', m x' < m x ∧ I x' a' w') q) a w) : (Code.loop c).wpIn F k0 P q a w := by
  intro b k cs hro hb hr
  have key : ∀ n x a w, m x = n → I x a w →
      ∃ e a' w', q e a' w' ∧ ArrivesIn (Machine.fenced P F) P (lone (b.atR a (.code c :: .inLoop c :: k)) cs w) b k cs e a' w' := by
    intro n
    induction n using Nat.strongRecOn with
    | _ n ih =>
      intro x a w hn hI
      obtain ⟨e, a₁, w₁, hq, harr⟩ := round x a w hI b (.inLoop c :: k) cs hro hb hr
      cases e with
      | normal =>
        obtain ⟨x1, hlt, hI₁⟩ := hq
        obtain ⟨e₂, a₂, w₂, hq₂, harr₂⟩ := ih (m x1) (hn ▸ hlt) x1 a₁ w₁ rfl hI₁
        exact ⟨e₂, a₂, w₂, hq₂, .of_steps (StepsIn.trans harr (.one (fenced_calm (fr := b.atR a₁ (.inLoop c :: k)) hb hr rfl) stepR_inLoop)) harr₂⟩
      | exit id => exact ⟨_, a₁, w₁, hq, .pass (x := .inLoop c) rfl (fun _ _ => .inl (by simp)) harr⟩
      | goto l => exact ⟨_, a₁, w₁, hq, .pass (x := .inLoop c) rfl (fun _ _ => .inl (by simp)) harr⟩
      | ret => exact ⟨_, a₁, w₁, hq, .pass (x := .inLoop c) rfl (fun _ _ => .inl (by simp)) harr⟩
      | panic ch => exact ⟨_, a₁, w₁, hq, .pass (x := .inLoop c) rfl (fun _ _ => .inl (by simp)) harr⟩
      | outgrown => exact ⟨_, a₁, w₁, hq, .pass (x := .inLoop c) rfl (fun _ _ => .inl (by simp)) harr⟩
  obtain ⟨e, a', w', hq, harr⟩ := key _ x0 a w rfl h0
  exact ⟨e, a', w', hq, .of_steps (.one (fenced_calm (fr := b.atR a (.code (.loop c) :: k)) hb hr rfl) stepR_loop) harr⟩

/-- What is to be shown at a round's end. -/
def Cont.round {α : Type} (Q : Cont) (n : Nat) (w0 : World) (inv : α → Env) (R : α → List Res) (m : α → Nat) (x : α) : Cont :=
  ⟨Q.r, Q.m, Exit.then (fun a' w' => ∃ x', m x' < m x ∧ ∃ e', a' = actM Q.m n (inv x' ++ e') ∧ Sat w0 w' (R x')) Q.q⟩

/-- A loop: at its head these slots hold this ('inv'), there are these resources ('R'); 'm' goes down. -/
theorem sc_loop {α : Type} {c : Code} (inv : α → Env) (R : α → List Res) (m : α → Nat) (x0 : α) (h0 : says e (inv x0)) (hR : Ent Rs (R x0))
    (round : ∀ x e, SC P (Q.round n w0 inv R m x) n w0 c (inv x ++ e) (R x)) : SC P Q n w0 (.loop c) e Rs := by
  intro w hw
  rw [actM_says h0]
  refine wpIn_loop_ghost (fun x a w => ∃ e, a = actM Q.m n (inv x ++ e) ∧ Sat w0 w (R x)) m x0 ⟨e, rfl, hw.ent hR⟩ ?_
  rintro x a w ⟨e, rfl, hw⟩
  exact round x e w hw

theorem sq_round {α : Type} {inv : α → Env} {R : α → List Res} {m : α → Nat} {x : α} (x' : α) (hm : m x' < m x) (hs : says e (inv x')) (hR : Ent Rs (R x')) :
    SQ (Q.round n w0 inv R m x) n w0 .normal e Rs := fun _ hw => ⟨x', hm, e, actM_says hs, hw.ent hR⟩
theorem sq_round_ret {α : Type} {inv : α → Env} {R : α → List Res} {m : α → Nat} {x : α} (h : SQ Q n w0 .ret e Rs) : SQ (Q.round n w0 inv R m x) n w0 .ret e Rs := fun w hw => h w hw
theorem sq_round_exit {α : Type} {inv : α → Env} {R : α → List Res} {m : α → Nat} {x : α} {id : Nat} (h : SQ Q n w0 (.exit id) e Rs) : SQ (Q.round n w0 inv R m x) n w0 (.exit id) e Rs := fun w hw => h w hw

theorem says_nil : says e [] := trivial
theorem says_cons {k : Nat} {v v' : Value} {l : Env} [h : Lk e k v] (hv : v = v') (hl : says e l) : says e ((k, v') :: l) := ⟨h.out.trans hv, hl⟩

/-! ### Forgetting slots that nobody reads any more -/
class KeepE (e : Env) (ks : List Nat) (l : outParam Env) : Prop where out : says e l
instance KeepE.nil (e : Env) : KeepE e [] [] := ⟨trivial⟩
instance KeepE.cons (e : Env) (k : Nat) (ks : List Nat) (v : Value) (l : Env) [h : Lk e k v] [h2 : KeepE e ks l] : KeepE e (k :: ks) ((k, v) :: l) := ⟨h.out, h2.out⟩
theorem sc_keep {c : Code} {l : Env} (ks : List Nat) [h : KeepE e ks l] (k : ∀ e0, SC P Q n w0 c (l ++ e0) Rs) : SC P Q n w0 c e Rs := by
  intro w hw; rw [actM_says h.out]; exact k e w hw
theorem sw_keep {l' : Env} (ks : List Nat) [h : KeepE e ks l'] (k : ∀ e0, SW P ops Q n w0 l (l' ++ e0) Rs) : SW P ops Q n w0 l e Rs := by
  intro w hw; rw [actM_says h.out]; exact k e w hw
theorem sq_keep {x : Exit} {l : Env} (ks : List Nat) [h : KeepE e ks l] (k : ∀ e0, SQ Q n w0 x (l ++ e0) Rs) : SQ Q n w0 x e Rs := by
  intro w hw; rw [actM_says h.out]; exact k e w hw

/-! ### Calls -/

/-- The contract of a function: to these arguments, with these resources (by their keys), it answers 'v' and leaves 'Rs'' ('Post F v Rs''; F: what else there is). -/
def Spec (P : Program) (f : FuncId) (args : List Value) (ks : List Nat) (rs : List HProp) (Post : List Res → Value → List Res → Prop) : Prop :=
  ∀ (w0 : World) (F : List Res) (w : World), Sat w0 w (ks.zip rs ++ F) → Calls P f args.toArray w fun x w' => ∃ v Rs', x = .returned v ∧ Post F v Rs' ∧ Sat w0 w' Rs'

/-- A function that has a body. -/
class Body (P : Program) (f : FuncId) : Prop where out : ∀ args w, (callFunc f args).run P w = .ok (.enter f args) w

theorem run_call_func {f : FuncId} {args : List Operand} {vs : List Value} {ts : Array TypeId} {o : Oper} (ho : o.op = .call { callee := .value (.func f), args := args.toArray, argTypes := ts }) (ha : args.map (act n e).eval = vs) (w : World) :
    (execOp (act n e).eval o).run P w = (callFunc f vs.toArray).run P w := by
  unfold execOp
  rw [ho]
  simp [resolve, Act.eval, Deferred.ofValue, invoke, ha]

theorem sw_call {d : Nat} {f : FuncId} {args : List Operand} {ts : Array TypeId} {ty : TypeId} {pos : String} {after : Array Edge} {vs : List Value} {ks : List Nat} {rs : List HProp} {Post : List Res → Value → List Res → Prop}
    (hs : Spec P f vs ks rs Post) [hb : Body P f] [ha : EvL n e args vs] [hsp : Split Rs ks rs F]
    (k : ∀ v Rs', Post F v Rs' → SW P ops Q n w0 rest ((d, v) :: e) Rs') :
    SW P ops Q n w0 ({ dst := some d, op := .call { callee := .value (.func f), args := args.toArray, argTypes := ts }, type := ty, pos := pos, after := after, guard := none } :: rest) e Rs := by
  intro w hw
  refine wpM_enter rfl (by rw [run_call_func rfl ha.out, hb.out]) (hs w0 F w (hw.ent hsp.ent)) ?_
  rintro x w' ⟨v, Rs', rfl, hp, hw'⟩
  refine ⟨v, rfl, ?_⟩
  rw [actM_put]
  exact k v Rs' hp w' hw'

theorem sw_call_ {f : FuncId} {args : List Operand} {ts : Array TypeId} {ty : TypeId} {pos : String} {after : Array Edge} {vs : List Value} {ks : List Nat} {rs : List HProp} {Post : List Res → Value → List Res → Prop}
    (hs : Spec P f vs ks rs Post) [hb : Body P f] [ha : EvL n e args vs] [hsp : Split Rs ks rs F]
    (k : ∀ v Rs', Post F v Rs' → SW P ops Q n w0 rest e Rs') :
    SW P ops Q n w0 ({ dst := none, op := .call { callee := .value (.func f), args := args.toArray, argTypes := ts }, type := ty, pos := pos, after := after, guard := none } :: rest) e Rs := by
  intro w hw
  refine wpM_enter rfl (by rw [run_call_func rfl ha.out, hb.out]) (hs w0 F w (hw.ent hsp.ent)) ?_
  rintro x w' ⟨v, Rs', rfl, hp, hw'⟩
  exact ⟨v, rfl, k v Rs' hp w' hw'⟩

/-! ### A function's body -/

def argEnv (i : Nat) : List Value → Env
  | [] => []
  | v :: vs => (i, v) :: argEnv (i + 1) vs

theorem look_argEnv : ∀ (vs : List Value) (i j : Nat), look (argEnv i vs) (i + j) = (vs[j]?).getD undef
  | [], _, _ => rfl
  | v :: vs, i, 0 => by simp [argEnv, look]
  | v :: vs, i, j + 1 => by
    simp only [argEnv, look]
    rw [if_neg (by omega), show i + (j + 1) = (i + 1) + j by omega, look_argEnv vs (i + 1) j]
    simp

theorem act_args (vs : List Value) (n : Nat) (h : vs.length ≤ n) : ({ tmps := vs.toArray ++ Array.replicate (n - vs.toArray.size) undef, defers := [] } : Act) = act n (argEnv 0 vs) := by
  unfold act
  congr 1
  apply Array.ext_getElem?
  intro i
  by_cases hi : i < n
  · rw [slots_getElem? n _ i hi]
    have := look_argEnv vs 0 i
    rw [Nat.zero_add] at this
    rw [this]
    by_cases hv : i < vs.length
    · simp [Array.getElem?_append, hv]
    · have h1 : vs.toArray.size ≤ i := by simpa using Nat.le_of_not_lt hv
      rw [Array.getElem?_append_right h1, Array.getElem?_replicate, if_pos (by simp at h1 ⊢; omega), List.getElem?_eq_none (by omega)]
      rfl
  · have h2 : (slots n (argEnv 0 vs))[i]? = none := by simp [slots, hi]
    rw [h2, Array.getElem?_eq_none (by simp; omega)]

/-- What a body must come to. -/
def Post (P : Program) (fn : Func) (w0 : World) (R : Value → List Res → Prop) : Cont :=
  ⟨none, [], fun x a w => (∀ c, x ≠ .panic c) ∧ bodyPostM Fence.wide 0 P fn (fun x w' => ∃ v Rs', x = .returned v ∧ R v Rs' ∧ Sat w0 w' Rs') x a w⟩

class ArgE (i : Nat) (vs : List Value) (e : outParam Env) : Prop where out : argEnv i vs = e
instance ArgE.nil (i : Nat) : ArgE i [] [] := ⟨rfl⟩
instance ArgE.cons (i : Nat) (v : Value) (vs : List Value) (e : Env) [h : ArgE (i + 1) vs e] : ArgE i (v :: vs) ((i, v) :: e) := ⟨by simp [argEnv, h.out]⟩
class ZipR (ks : List Nat) (rs : List HProp) (R : outParam (List Res → List Res)) : Prop where out : ∀ F, ks.zip rs ++ F = R F
instance ZipR.nil : ZipR [] [] (fun F => F) := ⟨fun _ => rfl⟩
instance ZipR.cons (k : Nat) (ks : List Nat) (r : HProp) (rs : List HProp) (R : List Res → List Res) [h : ZipR ks rs R] : ZipR (k :: ks) (r :: rs) (fun F => (k, r) :: R F) := ⟨fun F => by simp [← h.out F]⟩

theorem spec_of {f : FuncId} {fn : Func} {c : Code} {vs : List Value} {ks : List Nat} {rs : List HProp} {R : List Res → Value → List Res → Prop} {Z : List Res → List Res} (hf : P.funcs[f]? = some fn) (hb : fn.body = some c) (hn : fn.ntmps = n) (hl : Nat.ble vs.length n = true)
    [ha : ArgE 0 vs e] [hz : ZipR ks rs Z] (h : ∀ w0 F, SC P (Post P fn w0 (R F)) n w0 c e (Z F)) : Spec P f vs ks rs R := by
  intro w0 F w hw
  refine callsIn_wide.1 (callsIn_of_wp_marks (n := 0) hf hb trivial ?_)
  rw [hn, act_args vs n (Nat.le_of_ble_eq_true hl), ha.out]
  rw [hz.out] at hw
  exact Code.wpIn_mono (fun _ _ _ q => q.2) (h w0 F w hw)

theorem results_run1 {fn : Func} {t : Nat} {v : Value} (hr : fn.results = #[.tmp t]) [h : Lk e t v] [hn : Lt t n] (w : World) : (results fn (act n e).tmps).run P w = .ok v w := by
  have : (slots n e)[t]? = some v := by rw [slots_getElem? n e t hn.out, h.out]
  simp [results, hr, act, this]
theorem results_run2 {fn : Func} {t u : Nat} {v x : Value} (hr : fn.results = #[.tmp t, .tmp u]) [h : Lk e t v] [hn : Lt t n] [h2 : Lk e u x] [hn2 : Lt u n] (w : World) : (results fn (act n e).tmps).run P w = .ok (.tuple #[v, x]) w := by
  have a1 : (slots n e)[t]? = some v := by rw [slots_getElem? n e t hn.out, h.out]
  have a2 : (slots n e)[u]? = some x := by rw [slots_getElem? n e u hn2.out, h2.out]
  simp [results, hr, act, a1, a2]
theorem results_run3 {fn : Func} {t u s : Nat} {v x y : Value} (hr : fn.results = #[.tmp t, .tmp u, .tmp s]) [h : Lk e t v] [hn : Lt t n] [h2 : Lk e u x] [hn2 : Lt u n] [h3 : Lk e s y] [hn3 : Lt s n] (w : World) : (results fn (act n e).tmps).run P w = .ok (.tuple #[v, x, y]) w := by
  have a1 : (slots n e)[t]? = some v := by rw [slots_getElem? n e t hn.out, h.out]
  have a2 : (slots n e)[u]? = some x := by rw [slots_getElem? n e u hn2.out, h2.out]
  have a3 : (slots n e)[s]? = some y := by rw [slots_getElem? n e s hn3.out, h3.out]
  simp [results, hr, act, a1, a2, a3]

theorem sq_of {fn : Func} {R : Value → List Res → Prop} {v : Value} (hr : ∀ w, (results fn (act n e).tmps).run P w = .ok v w) (h : ∃ Rs', R v Rs' ∧ Ent Rs Rs') : SQ (Post P fn w0 R) n w0 .ret e Rs := by
  obtain ⟨Rs', h1, h2⟩ := h
  intro w hw
  exact ⟨fun _ h => (by cases h), v, hr w, v, Rs', rfl, h1, hw.ent h2⟩
theorem sq_of_n {fn : Func} {R : Value → List Res → Prop} {v : Value} (hr : ∀ w, (results fn (act n e).tmps).run P w = .ok v w) (h : ∃ Rs', R v Rs' ∧ Ent Rs Rs') : SQ (Post P fn w0 R) n w0 .normal e Rs := by
  obtain ⟨Rs', h1, h2⟩ := h
  intro w hw
  exact ⟨fun _ h => (by cases h), v, hr w, v, Rs', rfl, h1, hw.ent h2⟩
theorem sq_ret0 {fn : Func} {R : Value → List Res → Prop} (hr : fn.results = #[]) (h : ∃ Rs', R (.tuple #[]) Rs' ∧ Ent Rs Rs') : SQ (Post P fn w0 R) n w0 .ret e Rs := sq_of (fun w => by simp [results, hr]) h
theorem sq_end0 {fn : Func} {R : Value → List Res → Prop} (hr : fn.results = #[]) (h : ∃ Rs', R (.tuple #[]) Rs' ∧ Ent Rs Rs') : SQ (Post P fn w0 R) n w0 .normal e Rs := sq_of_n (fun w => by simp [results, hr]) h
theorem sq_ret1 {fn : Func} {R : Value → List Res → Prop} {t : Nat} {v : Value} (hr : fn.results = #[.tmp t]) [Lk e t v] [Lt t n] (h : ∃ Rs', R v Rs' ∧ Ent Rs Rs') : SQ (Post P fn w0 R) n w0 .ret e Rs := sq_of (results_run1 hr) h
theorem sq_ret2 {fn : Func} {R : Value → List Res → Prop} {t u : Nat} {v x : Value} (hr : fn.results = #[.tmp t, .tmp u]) [Lk e t v] [Lt t n] [Lk e u x] [Lt u n] (h : ∃ Rs', R (.tuple #[v, x]) Rs' ∧ Ent Rs Rs') : SQ (Post P fn w0 R) n w0 .ret e Rs := sq_of (results_run2 hr) h
theorem sq_ret3 {fn : Func} {R : Value → List Res → Prop} {t u s : Nat} {v x y : Value} (hr : fn.results = #[.tmp t, .tmp u, .tmp s]) [Lk e t v] [Lt t n] [Lk e u x] [Lt u n] [Lk e s y] [Lt s n] (h : ∃ Rs', R (.tuple #[v, x, y]) Rs' ∧ Ent Rs Rs') : SQ (Post P fn w0 R) n w0 .ret e Rs := sq_of (results_run3 hr) h

end
end Go.Gsl
