/- Judgements of the walk over resources, and the rules of code. -/
import Derived.Test.YtccmenekmmlboaaGsl1
import Derived.Deep.Quiet
namespace Go.Gsl

/-- From every world that holds the resources, the list of operations comes to 'Q'. -/
def SW (P : Program) (ops : List Oper) (Q : Exit → Act → World → Prop) (n : Nat) (w0 : World) (l : List Oper) (e : Env) (Rs : List Res) : Prop :=
  ∀ w, Sat w0 w Rs → wpList P ops.toArray Q l (act n e) w
def SC (P : Program) (Q : Exit → Act → World → Prop) (n : Nat) (w0 : World) (c : Code) (e : Env) (Rs : List Res) : Prop :=
  ∀ w, Sat w0 w Rs → c.wp P Q (act n e) w
def SQ (Q : Exit → Act → World → Prop) (n : Nat) (w0 : World) (x : Exit) (e : Env) (Rs : List Res) : Prop :=
  ∀ w, Sat w0 w Rs → Q x (act n e) w

section
variable {P : Program} {ops : List Oper} {Q : Exit → Act → World → Prop} {n : Nat} {w0 : World} {l rest : List Oper} {e : Env} {Rs Rs' F : List Res}

/-! ### What an operation yields, the world left alone -/
class RunOp (P : Program) (n : Nat) (w0 : World) (e : Env) (Rs : List Res) (op : Op) (ty : TypeId) (v : outParam Value) : Prop where
  run : ∀ o : Oper, o.op = op → o.type = ty → ∀ w, Sat w0 w Rs → (execOp (act n e).eval o).run P w = .ok (.value v) w

/-- An operation that looks at no memory. -/
class PureOp (P : Program) (n : Nat) (e : Env) (op : Op) (ty : TypeId) (v : outParam Value) : Prop where
  run : ∀ o : Oper, o.op = op → o.type = ty → ∀ w, (execOp (act n e).eval o).run P w = .ok (.value v) w
instance RunOp.pure (op : Op) (ty : TypeId) (v : Value) [h : PureOp P n e op ty v] : RunOp P n w0 e Rs op ty v := ⟨fun o h1 h2 w _ => h.run o h1 h2 w⟩

theorem wp_of_run {o : Oper} {a : Act} {w : World} {K : Act → World → Prop} {v : Value} (h : (execOp a.eval o).run P w = .ok (.value v) w) (hK : K (a.put o.dst v) w) : o.wp P a w K Q := by
  unfold Oper.wp; rw [h]; exact hK

theorem sw_nil (h : SQ Q n w0 .normal e Rs) : SW P ops Q n w0 [] e Rs := fun w hw => wpList_nil (h w hw)

theorem sw_op {d : Nat} {op : Op} {ty : TypeId} {pos : String} {after : Array Edge} {v : Value} [h : RunOp P n w0 e Rs op ty v]
    (k : SW P ops Q n w0 rest ((d, v) :: e) Rs) : SW P ops Q n w0 ({ dst := some d, op := op, type := ty, pos := pos, after := after, guard := none } :: rest) e Rs := by
  intro w hw
  refine wpList_plain rfl fun K hK => wp_of_run (h.run _ rfl rfl w hw) ?_
  rw [act_put]; exact hK _ _ (k w hw)

theorem sw_op_ {op : Op} {ty : TypeId} {pos : String} {after : Array Edge} {v : Value} [h : RunOp P n w0 e Rs op ty v]
    (k : SW P ops Q n w0 rest e Rs) : SW P ops Q n w0 ({ dst := none, op := op, type := ty, pos := pos, after := after, guard := none } :: rest) e Rs := by
  intro w hw
  refine wpList_plain rfl fun K hK => wp_of_run (h.run _ rfl rfl w hw) ?_
  exact hK _ _ (k w hw)

/-- The value that an operation yields, said otherwise. -/
theorem sw_op_as {d : Nat} {op : Op} {ty : TypeId} {pos : String} {after : Array Edge} {v v' : Value} [h : RunOp P n w0 e Rs op ty v] (hv : v = v')
    (k : SW P ops Q n w0 rest ((d, v') :: e) Rs) : SW P ops Q n w0 ({ dst := some d, op := op, type := ty, pos := pos, after := after, guard := none } :: rest) e Rs := by
  subst hv; exact sw_op k

/-! ### Guards -/
class DstAt (ops : List Oper) (j : Nat) (t : outParam Nat) : Prop where out : (ops[j]?).bind (·.dst) = some t
instance DstAt.here (t : Nat) (op : Op) (ty : TypeId) (pos : String) (after : Array Edge) (g : Option (Nat × Bool)) (l : List Oper) : DstAt ({ dst := some t, op := op, type := ty, pos := pos, after := after, guard := g } :: l) 0 t := ⟨rfl⟩
instance DstAt.there (o : Oper) (l : List Oper) (j t : Nat) [h : DstAt l j t] : DstAt (o :: l) (j + 1) t := ⟨by simpa using h.out⟩

theorem yielded_of {j t : Nat} {b : Bool} [hd : DstAt ops j t] [hl : Lk e t (.bool b)] [hn : Lt t n] : yielded ops.toArray (act n e).tmps j = some b := by
  have h1 : (ops.toArray[j]?).bind (·.dst) = some t := by simpa using hd.out
  unfold yielded
  rw [h1]
  simp [act, slots_getElem? n e t hn.out, hl.out]

theorem sw_guard_skip {d : Nat} {op : Op} {ty : TypeId} {pos : String} {after : Array Edge} {j t : Nat} {b c : Bool} [hd : DstAt ops j t] [hl : Lk e t (.bool c)] [hn : Lt t n] [hf : BNe c b]
    (k : SW P ops Q n w0 rest ((d, undef) :: e) Rs) : SW P ops Q n w0 ({ dst := some d, op := op, type := ty, pos := pos, after := after, guard := some (j, b) } :: rest) e Rs := by
  intro w hw
  unfold wpList
  rw [if_neg]
  · rw [act_put]; exact k w hw
  · simp only [Region.wanted, yielded_of (n := n) (e := e) (ops := ops) (j := j) (t := t) (b := c)]
    have := hf.out
    simpa using this

theorem sw_guard_skip_ {op : Op} {ty : TypeId} {pos : String} {after : Array Edge} {j t : Nat} {b c : Bool} [hd : DstAt ops j t] [hl : Lk e t (.bool c)] [hn : Lt t n] [hf : BNe c b]
    (k : SW P ops Q n w0 rest e Rs) : SW P ops Q n w0 ({ dst := none, op := op, type := ty, pos := pos, after := after, guard := some (j, b) } :: rest) e Rs := by
  intro w hw
  unfold wpList
  rw [if_neg]
  · exact k w hw
  · simp only [Region.wanted, yielded_of (n := n) (e := e) (ops := ops) (j := j) (t := t) (b := c)]
    have := hf.out
    simpa using this

theorem sw_guard_run {dst : Option Nat} {op : Op} {ty : TypeId} {pos : String} {after : Array Edge} {j t : Nat} {b : Bool} [hd : DstAt ops j t] [hl : Lk e t (.bool b)] [hn : Lt t n]
    (k : SW P ops Q n w0 ({ dst := dst, op := op, type := ty, pos := pos, after := after, guard := none } :: rest) e Rs) : SW P ops Q n w0 ({ dst := dst, op := op, type := ty, pos := pos, after := after, guard := some (j, b) } :: rest) e Rs := by
  intro w hw
  have := k w hw
  unfold wpList at this ⊢
  rw [if_pos (by simp [Region.wanted])] at this
  rw [if_pos]
  · exact this
  · simp only [Region.wanted, yielded_of (n := n) (e := e) (ops := ops) (j := j) (t := t) (b := b)]
    simp

/-- What a test says. -/
class BP (b : Bool) (p : outParam Prop) : Prop where out : b = true ↔ p
instance (priority := 10) BP.any (b : Bool) : BP b (b = true) := ⟨Iff.rfl⟩
instance BP.dec (p : Prop) [Decidable p] : BP (decide p) p := ⟨by simp⟩
instance BP.not (b : Bool) (p : Prop) [h : BP b p] : BP (!b) (¬ p) := ⟨by rw [← h.out]; simp⟩

/-- A guard that is not decided: both ways. -/
theorem sw_guard_split {dst : Option Nat} {op : Op} {ty : TypeId} {pos : String} {after : Array Edge} {j t : Nat} {b c : Bool} {p : Prop} [DstAt ops j t] [hl : Lk e t (.bool c)] [hp : BP c p]
    (k1 : p → SW P ops Q n w0 ({ dst := dst, op := op, type := ty, pos := pos, after := after, guard := some (j, b) } :: rest) ((t, .bool true) :: e) Rs)
    (k2 : ¬ p → SW P ops Q n w0 ({ dst := dst, op := op, type := ty, pos := pos, after := after, guard := some (j, b) } :: rest) ((t, .bool false) :: e) Rs) :
    SW P ops Q n w0 ({ dst := dst, op := op, type := ty, pos := pos, after := after, guard := some (j, b) } :: rest) e Rs := by
  intro w hw
  cases c with
  | true => rw [act_says (e := e) (l := [(t, .bool true)]) ⟨hl.out, trivial⟩]; exact k1 (hp.out.1 rfl) w hw
  | false => rw [act_says (e := e) (l := [(t, .bool false)]) ⟨hl.out, trivial⟩]; exact k2 (fun h => by have := hp.out.2 h; cases this) w hw

/-! ### Code -/
theorem sc_seq {x y : Code} (h : SC P (Exit.then (fun a w => y.wp P Q a w) Q) n w0 x e Rs) : SC P Q n w0 (.seq x y) e Rs := fun w hw => wp_seq (h w hw)
theorem sc_skip (h : SQ Q n w0 .normal e Rs) : SC P Q n w0 .skip e Rs := fun w hw => wp_skip (h w hw)
theorem sc_ret (h : SQ Q n w0 .ret e Rs) : SC P Q n w0 .ret e Rs := fun w hw => wp_ret (h w hw)
theorem sc_exit {id : Nat} (h : SQ Q n w0 (.exit id) e Rs) : SC P Q n w0 (.exit id) e Rs := fun w hw => wp_exit (h w hw)
theorem sc_block {id : Nat} {c : Code} (h : SC P (Exit.inBlock id Q) n w0 c e Rs) : SC P Q n w0 (.block id c) e Rs := fun w hw => wp_block (h w hw)
theorem sc_region {id : Nat} (h : SW P l Q n w0 l e Rs) : SC P Q n w0 (.region id l.toArray false) e Rs := fun w hw => wp_region_lit (h w hw)
theorem sc_cond_true {c : Operand} {x y : Code} [hc : Ev n e c (.bool true)] (h : SC P Q n w0 x e Rs) : SC P Q n w0 (.cond c x y) e Rs := fun w hw => wp_cond_true hc.out (h w hw)
theorem sc_cond_false {c : Operand} {x y : Code} [hc : Ev n e c (.bool false)] (h : SC P Q n w0 y e Rs) : SC P Q n w0 (.cond c x y) e Rs := fun w hw => wp_cond_false hc.out (h w hw)
theorem sc_cond {c : Operand} {x y : Code} {b : Bool} {p : Prop} [hc : Ev n e c (.bool b)] [hp : BP b p] (h1 : p → SC P Q n w0 x e Rs) (h2 : ¬ p → SC P Q n w0 y e Rs) : SC P Q n w0 (.cond c x y) e Rs :=
  fun w hw => wp_cond_split hc.out (fun ht => h1 (hp.out.1 ht) w hw) (fun hf => h2 (fun h => by have := hp.out.2 h; rw [hf] at this; cases this) w hw)

theorem sq_then {y : Code} {Q' : Exit → Act → World → Prop} (h : SC P Q n w0 y e Rs) : SQ (Exit.then (fun a w => y.wp P Q a w) Q') n w0 .normal e Rs := fun w hw => h w hw
theorem sq_then_ret {K : Act → World → Prop} (h : SQ Q n w0 .ret e Rs) : SQ (Exit.then K Q) n w0 .ret e Rs := fun w hw => h w hw
theorem sq_then_exit {K : Act → World → Prop} {id : Nat} (h : SQ Q n w0 (.exit id) e Rs) : SQ (Exit.then K Q) n w0 (.exit id) e Rs := fun w hw => h w hw
theorem sq_block {id : Nat} (h : SQ Q n w0 .normal e Rs) : SQ (Exit.inBlock id Q) n w0 .normal e Rs := fun w hw => h w hw
theorem sq_block_ret {id : Nat} (h : SQ Q n w0 .ret e Rs) : SQ (Exit.inBlock id Q) n w0 .ret e Rs := fun w hw => h w hw
theorem sq_block_exit {id : Nat} (h : SQ Q n w0 .normal e Rs) : SQ (Exit.inBlock id Q) n w0 (.exit id) e Rs := fun w hw => by simpa [Exit.inBlock] using h w hw
theorem sq_block_past {id j : Nat} [hf : EvB (Nat.beq j id) false] (h : SQ Q n w0 (.exit j) e Rs) : SQ (Exit.inBlock id Q) n w0 (.exit j) e Rs := fun w hw => by
  have := Nat.ne_of_beq_eq_false hf.out
  simpa [Exit.inBlock, this] using h w hw

/-! ### A loop -/
theorem wp_loop_ghost {α : Type} {c : Code} {a : Act} {w : World} (I : α → Act → World → Prop) (m : α → Nat) (x0 : α) (h0 : I x0 a w)
    (round : ∀ x a w, I x a w → c.wp P (Exit.then (fun a' w' => ∃ x', m x' < m x ∧ I x' a' w') Q) a w) : (Code.loop c).wp P Q a w := by
  intro b k cs
  have key : ∀ n x a w, m x = n → I x a w →
      ∃ e a' w', Q e a' w' ∧ Arrives P (lone (b.at a (.code c :: .inLoop c :: k)) cs w) b k cs e a' w' := by
    intro n
    induction n using Nat.strongRecOn with
    | _ n ih =>
      intro x a w hn hI
      obtain ⟨e, a₁, w₁, hq, harr⟩ := round x a w hI b (.inLoop c :: k) cs
      cases e with
      | normal =>
        obtain ⟨x1, hlt, hI₁⟩ := hq
        obtain ⟨e₂, a₂, w₂, hq₂, harr₂⟩ := ih (m x1) (hn ▸ hlt) x1 a₁ w₁ rfl hI₁
        exact ⟨e₂, a₂, w₂, hq₂, .of_steps (Steps.trans harr (.one step_inLoop)) harr₂⟩
      | exit id => exact ⟨_, a₁, w₁, hq, .pass (x := .inLoop c) rfl (fun _ _ => .inl (by simp)) harr⟩
      | goto l => exact ⟨_, a₁, w₁, hq, .pass (x := .inLoop c) rfl (fun _ _ => .inl (by simp)) harr⟩
      | ret => exact ⟨_, a₁, w₁, hq, .pass (x := .inLoop c) rfl (fun _ _ => .inl (by simp)) harr⟩
      | panic ch => exact ⟨_, a₁, w₁, hq, .pass (x := .inLoop c) rfl (fun _ _ => .inl (by simp)) harr⟩
      | outgrown => exact ⟨_, a₁, w₁, hq, .pass (x := .inLoop c) rfl (fun _ _ => .inl (by simp)) harr⟩
  obtain ⟨e, a', w', hq, harr⟩ := key _ x0 a w rfl h0
  exact ⟨e, a', w', hq, .of_steps (.one step_loop) harr⟩

/-- What is to be shown at a round's end. -/
def Round {α : Type} (n : Nat) (w0 : World) (inv : α → Env) (R : α → List Res) (m : α → Nat) (x : α) (a' : Act) (w' : World) : Prop :=
  ∃ x', m x' < m x ∧ ∃ e', a' = act n (inv x' ++ e') ∧ Sat w0 w' (R x')

/-- A loop: at its head these slots hold this ('inv'), there are these resources ('R'); 'm' goes down. -/
theorem sc_loop {α : Type} {c : Code} (inv : α → Env) (R : α → List Res) (m : α → Nat) (x0 : α) (h0 : says e (inv x0)) (hR : Ent Rs (R x0))
    (round : ∀ x e, SC P (Exit.then (Round n w0 inv R m x) Q) n w0 c (inv x ++ e) (R x)) : SC P Q n w0 (.loop c) e Rs := by
  intro w hw
  rw [act_says h0]
  refine wp_loop_ghost (fun x a w => ∃ e, a = act n (inv x ++ e) ∧ Sat w0 w (R x)) m x0 ⟨e, rfl, hw.ent hR⟩ ?_
  rintro x a w ⟨e, rfl, hw⟩
  exact round x e w hw

theorem sq_round {α : Type} {inv : α → Env} {R : α → List Res} {m : α → Nat} {x : α} (x' : α) (hm : m x' < m x) (hs : says e (inv x')) (hR : Ent Rs (R x')) :
    SQ (Exit.then (Round n w0 inv R m x) Q) n w0 .normal e Rs := fun _ hw => ⟨x', hm, e, act_says hs, hw.ent hR⟩

theorem says_nil : says e [] := trivial
theorem says_cons {k : Nat} {v v' : Value} {l : Env} [h : Lk e k v] (hv : v = v') (hl : says e l) : says e ((k, v') :: l) := ⟨h.out.trans hv, hl⟩

/-! ### Forgetting slots that nobody reads any more -/
class KeepE (e : Env) (ks : List Nat) (l : outParam Env) : Prop where out : says e l
instance KeepE.nil (e : Env) : KeepE e [] [] := ⟨trivial⟩
instance KeepE.cons (e : Env) (k : Nat) (ks : List Nat) (v : Value) (l : Env) [h : Lk e k v] [h2 : KeepE e ks l] : KeepE e (k :: ks) ((k, v) :: l) := ⟨h.out, h2.out⟩
theorem sc_keep {c : Code} {l : Env} (ks : List Nat) [h : KeepE e ks l] (k : ∀ e0, SC P Q n w0 c (l ++ e0) Rs) : SC P Q n w0 c e Rs := by
  intro w hw; rw [act_says h.out]; exact k e w hw
theorem sw_keep {l' : Env} (ks : List Nat) [h : KeepE e ks l'] (k : ∀ e0, SW P ops Q n w0 l (l' ++ e0) Rs) : SW P ops Q n w0 l e Rs := by
  intro w hw; rw [act_says h.out]; exact k e w hw
theorem sq_keep {x : Exit} {l : Env} (ks : List Nat) [h : KeepE e ks l] (k : ∀ e0, SQ Q n w0 x (l ++ e0) Rs) : SQ Q n w0 x e Rs := by
  intro w hw; rw [act_says h.out]; exact k e w hw

/-! ### A region that draws its order, whose operations leave memory as it is -/
theorem sc_region_quiet {id : Nat} (hm : P.follows .mixedOrders = true) (hB : Region.lexB .any l.toArray = true)
    (h : wpQuiet P l.toArray (fun w => Sat w0 w Rs) (fun a' => ∀ w', Sat w0 w' Rs → Q .normal a' w') l (act n e)) : SC P Q n w0 (.region id l.toArray true) e Rs := by
  intro w hw
  exact wp_region_quiet (C := fun w => Sat w0 w Rs) hm hB (hw.draw _) (by simpa using h)

/-- The quiet walk. -/
def SK (P : Program) (ops : List Oper) (Q : Exit → Act → World → Prop) (n : Nat) (w0 : World) (l : List Oper) (e : Env) (Rs : List Res) : Prop :=
  wpQuiet P ops.toArray (fun w => Sat w0 w Rs) (fun a' => ∀ w', Sat w0 w' Rs → Q .normal a' w') l (act n e)

theorem sc_draw {id : Nat} (hm : P.follows .mixedOrders = true) (hB : Region.lexB .any l.toArray = true) (h : SK P l Q n w0 l e Rs) : SC P Q n w0 (.region id l.toArray true) e Rs :=
  sc_region_quiet hm hB h

theorem sk_nil (h : SQ Q n w0 .normal e Rs) : SK P ops Q n w0 [] e Rs := wpQuiet_nil h

theorem sk_op {d : Nat} {op : Op} {ty : TypeId} {pos : String} {after : Array Edge} {v : Value} [h : RunOp P n w0 e Rs op ty v]
    (k : SK P ops Q n w0 rest ((d, v) :: e) Rs) : SK P ops Q n w0 ({ dst := some d, op := op, type := ty, pos := pos, after := after, guard := none } :: rest) e Rs := by
  refine wpQuiet_step fun K hK => ?_
  rw [if_pos (by simp [Region.wanted])]
  refine ⟨v, fun w hw => ?_, ?_⟩
  · unfold Oper.quietAt
    rw [h.run _ rfl rfl w hw]
    exact ⟨rfl, rfl⟩
  · rw [act_put]; exact hK _ k

theorem sk_op_as {d : Nat} {op : Op} {ty : TypeId} {pos : String} {after : Array Edge} {v v' : Value} [h : RunOp P n w0 e Rs op ty v] (hv : v = v')
    (k : SK P ops Q n w0 rest ((d, v') :: e) Rs) : SK P ops Q n w0 ({ dst := some d, op := op, type := ty, pos := pos, after := after, guard := none } :: rest) e Rs := by
  subst hv; exact sk_op k

theorem sk_guard_skip {d : Nat} {op : Op} {ty : TypeId} {pos : String} {after : Array Edge} {j t : Nat} {b c : Bool} [hd : DstAt ops j t] [hl : Lk e t (.bool c)] [hn : Lt t n] [hf : BNe c b]
    (k : SK P ops Q n w0 rest ((d, undef) :: e) Rs) : SK P ops Q n w0 ({ dst := some d, op := op, type := ty, pos := pos, after := after, guard := some (j, b) } :: rest) e Rs := by
  refine wpQuiet_step fun K hK => ?_
  rw [if_neg]
  · rw [act_put]; exact hK _ k
  · simp only [Region.wanted, yielded_of (n := n) (e := e) (ops := ops) (j := j) (t := t) (b := c)]
    have := hf.out
    simpa using this

theorem sk_guard_run {dst : Option Nat} {op : Op} {ty : TypeId} {pos : String} {after : Array Edge} {j t : Nat} {b : Bool} [hd : DstAt ops j t] [hl : Lk e t (.bool b)] [hn : Lt t n]
    (k : SK P ops Q n w0 ({ dst := dst, op := op, type := ty, pos := pos, after := after, guard := none } :: rest) e Rs) : SK P ops Q n w0 ({ dst := dst, op := op, type := ty, pos := pos, after := after, guard := some (j, b) } :: rest) e Rs := by
  unfold SK wpQuiet at k ⊢
  rw [if_pos (by simp [Region.wanted])] at k
  rw [if_pos]
  · exact k
  · simp only [Region.wanted, yielded_of (n := n) (e := e) (ops := ops) (j := j) (t := t) (b := b)]
    simp

theorem sk_guard_split {dst : Option Nat} {op : Op} {ty : TypeId} {pos : String} {after : Array Edge} {j t : Nat} {b c : Bool} {p : Prop} [DstAt ops j t] [hl : Lk e t (.bool c)] [hp : BP c p]
    (k1 : p → SK P ops Q n w0 ({ dst := dst, op := op, type := ty, pos := pos, after := after, guard := some (j, b) } :: rest) ((t, .bool true) :: e) Rs)
    (k2 : ¬ p → SK P ops Q n w0 ({ dst := dst, op := op, type := ty, pos := pos, after := after, guard := some (j, b) } :: rest) ((t, .bool false) :: e) Rs) :
    SK P ops Q n w0 ({ dst := dst, op := op, type := ty, pos := pos, after := after, guard := some (j, b) } :: rest) e Rs := by
  unfold SK at *
  cases c with
  | true => rw [act_says (e := e) (l := [(t, .bool true)]) ⟨hl.out, trivial⟩]; exact k1 (hp.out.1 rfl)
  | false => rw [act_says (e := e) (l := [(t, .bool false)]) ⟨hl.out, trivial⟩]; exact k2 (fun h => by have := hp.out.2 h; cases this)

/-! ### Calls -/

/-- The contract of a function: to these arguments, with these resources (by their keys), it answers 'v' and leaves 'Rs'' ('Post F v Rs''; F: what else there is). -/
def Spec (P : Program) (f : FuncId) (args : List Value) (ks : List Nat) (rs : List HProp) (Post : List Res → Value → List Res → Prop) : Prop :=
  ∀ (w0 : World) (F : List Res) (w : World), Sat w0 w (ks.zip rs ++ F) → Calls P f args.toArray w fun x w' => ∃ v Rs', x = .returned v ∧ Post F v Rs' ∧ Sat w0 w' Rs'

/-- A function that has a body. -/
class Body (P : Program) (f : FuncId) : Prop where out : ∀ args w, (callFunc f args).run P w = .ok (.enter f args) w

theorem run_call_func {f : FuncId} {args : List Operand} {vs : List Value} {ts : Array TypeId} {o : Oper} (ho : o.op = .call { callee := .value (.func f), args := args.toArray, argTypes := ts }) (ha : args.map (act n e).eval = vs) (w : World) :
    (execOp (act n e).eval o).run P w = (callFunc f vs.toArray).run P w := by
  unfold execOp
  rw [ho]
  simp [resolve, Act.eval, Deferred.ofValue, invoke, ha]

theorem sw_call {d : Nat} {f : FuncId} {args : List Operand} {ts : Array TypeId} {ty : TypeId} {pos : String} {after : Array Edge} {vs : List Value} {ks : List Nat} {rs : List HProp} {Post : List Res → Value → List Res → Prop}
    (hs : Spec P f vs ks rs Post) [hb : Body P f] [ha : EvL n e args vs] [hsp : Split Rs ks rs F]
    (k : ∀ v Rs', Post F v Rs' → SW P ops Q n w0 rest ((d, v) :: e) Rs') :
    SW P ops Q n w0 ({ dst := some d, op := .call { callee := .value (.func f), args := args.toArray, argTypes := ts }, type := ty, pos := pos, after := after, guard := none } :: rest) e Rs := by
  intro w hw
  refine wpList_plain rfl fun K hK => ?_
  unfold Oper.wp
  rw [run_call_func rfl ha.out, hb.out]
  show Calls P f vs.toArray w _
  refine (hs w0 F w (hw.ent hsp.ent)).mono ?_
  rintro x w' ⟨v, Rs', rfl, hp, hw'⟩
  have := k v Rs' hp w' hw'
  show K ((act n e).put (some d) v) w'
  rw [act_put]
  exact hK _ _ this

theorem sw_call_ {f : FuncId} {args : List Operand} {ts : Array TypeId} {ty : TypeId} {pos : String} {after : Array Edge} {vs : List Value} {ks : List Nat} {rs : List HProp} {Post : List Res → Value → List Res → Prop}
    (hs : Spec P f vs ks rs Post) [hb : Body P f] [ha : EvL n e args vs] [hsp : Split Rs ks rs F]
    (k : ∀ v Rs', Post F v Rs' → SW P ops Q n w0 rest e Rs') :
    SW P ops Q n w0 ({ dst := none, op := .call { callee := .value (.func f), args := args.toArray, argTypes := ts }, type := ty, pos := pos, after := after, guard := none } :: rest) e Rs := by
  intro w hw
  refine wpList_plain rfl fun K hK => ?_
  unfold Oper.wp
  rw [run_call_func rfl ha.out, hb.out]
  show Calls P f vs.toArray w _
  refine (hs w0 F w (hw.ent hsp.ent)).mono ?_
  rintro x w' ⟨v, Rs', rfl, hp, hw'⟩
  have := k v Rs' hp w' hw'
  exact hK _ _ this

/-- A quiet call within a region that draws its order: it answers one value, and leaves the resources. -/
theorem sk_call {d : Nat} {f : FuncId} {args : List Operand} {ts : Array TypeId} {ty : TypeId} {pos : String} {after : Array Edge} {vs : List Value} {ks : List Nat} {rs : List HProp} {Post : List Res → Value → List Res → Prop} {v : Value}
    (hs : Spec P f vs ks rs Post) [hb : Body P f] [ha : EvL n e args vs] [hsp : Split Rs ks rs F]
    (hq : ∀ u Rs', Post F u Rs' → u = v ∧ Ent Rs' Rs)
    (k : SK P ops Q n w0 rest ((d, v) :: e) Rs) :
    SK P ops Q n w0 ({ dst := some d, op := .call { callee := .value (.func f), args := args.toArray, argTypes := ts }, type := ty, pos := pos, after := after, guard := none } :: rest) e Rs := by
  refine wpQuiet_step fun K hK => ?_
  rw [if_pos (by simp [Region.wanted])]
  refine ⟨v, fun w hw => ?_, ?_⟩
  · unfold Oper.quietAt
    rw [run_call_func rfl ha.out, hb.out]
    refine ⟨rfl, (hs w0 F w (hw.ent hsp.ent)).mono ?_⟩
    rintro x w' ⟨u, Rs', rfl, hp, hw'⟩
    obtain ⟨rfl, he⟩ := hq u Rs' hp
    exact ⟨rfl, hw'.ent he⟩
  · rw [act_put]; exact hK _ k

/-! ### A function's body -/

def argEnv (i : Nat) : List Value → Env
  | [] => []
  | v :: vs => (i, v) :: argEnv (i + 1) vs

theorem look_argEnv : ∀ (vs : List Value) (i j : Nat), look (argEnv i vs) (i + j) = (vs[j]?).getD undef
  | [], _, _ => rfl
  | v :: vs, i, 0 => by simp [argEnv, look]
  | v :: vs, i, j + 1 => by
    simp only [argEnv, look]
    rw [if_neg (by omega), show i + (j + 1) = (i + 1) + j by omega, look_argEnv vs (i + 1) j]
    simp

theorem act_args (vs : List Value) (n : Nat) (h : vs.length ≤ n) : ({ tmps := vs.toArray ++ Array.replicate (n - vs.toArray.size) undef, defers := [] } : Act) = act n (argEnv 0 vs) := by
  unfold act
  congr 1
  apply Array.ext_getElem?
  intro i
  by_cases hi : i < n
  · rw [slots_getElem? n _ i hi]
    have := look_argEnv vs 0 i
    rw [Nat.zero_add] at this
    rw [this]
    by_cases hv : i < vs.length
    · simp [Array.getElem?_append, hv]
    · have h1 : vs.toArray.size ≤ i := by simpa using Nat.le_of_not_lt hv
      rw [Array.getElem?_append_right h1, Array.getElem?_replicate, if_pos (by simp at h1 ⊢; omega), List.getElem?_eq_none (by omega)]
      rfl
  · have h2 : (slots n (argEnv 0 vs))[i]? = none := by simp [slots, hi]
    rw [h2, Array.getElem?_eq_none (by simp; omega)]

/-- What a body must come to. -/
def Post (P : Program) (fn : Func) (w0 : World) (R : Value → List Res → Prop) : Exit → Act → World → Prop :=
  bodyPost P fn fun x w' => ∃ v Rs', x = .returned v ∧ R v Rs' ∧ Sat w0 w' Rs'

class ArgE (i : Nat) (vs : List Value) (e : outParam Env) : Prop where out : argEnv i vs = e
instance ArgE.nil (i : Nat) : ArgE i [] [] := ⟨rfl⟩
instance ArgE.cons (i : Nat) (v : Value) (vs : List Value) (e : Env) [h : ArgE (i + 1) vs e] : ArgE i (v :: vs) ((i, v) :: e) := ⟨by simp [argEnv, h.out]⟩
class ZipR (ks : List Nat) (rs : List HProp) (R : outParam (List Res → List Res)) : Prop where out : ∀ F, ks.zip rs ++ F = R F
instance ZipR.nil : ZipR [] [] (fun F => F) := ⟨fun _ => rfl⟩
instance ZipR.cons (k : Nat) (ks : List Nat) (r : HProp) (rs : List HProp) (R : List Res → List Res) [h : ZipR ks rs R] : ZipR (k :: ks) (r :: rs) (fun F => (k, r) :: R F) := ⟨fun F => by simp [← h.out F]⟩

theorem spec_of {f : FuncId} {fn : Func} {c : Code} {vs : List Value} {ks : List Nat} {rs : List HProp} {R : List Res → Value → List Res → Prop} {Z : List Res → List Res} (hf : P.funcs[f]? = some fn) (hb : fn.body = some c) (hn : fn.ntmps = n) (hl : Nat.ble vs.length n = true)
    [ha : ArgE 0 vs e] [hz : ZipR ks rs Z] (h : ∀ w0 F, SC P (Post P fn w0 (R F)) n w0 c e (Z F)) : Spec P f vs ks rs R := by
  intro w0 F w hw
  refine calls_of_wp hf hb ?_
  rw [hn, act_args vs n (Nat.le_of_ble_eq_true hl), ha.out]
  rw [hz.out] at hw
  exact h w0 F w hw

theorem results_run1 {fn : Func} {t : Nat} {v : Value} (hr : fn.results = #[.tmp t]) [h : Lk e t v] [hn : Lt t n] (w : World) : (results fn (act n e).tmps).run P w = .ok v w := by
  have : (slots n e)[t]? = some v := by rw [slots_getElem? n e t hn.out, h.out]
  simp [results, hr, act, this]
theorem results_run2 {fn : Func} {t u : Nat} {v x : Value} (hr : fn.results = #[.tmp t, .tmp u]) [h : Lk e t v] [hn : Lt t n] [h2 : Lk e u x] [hn2 : Lt u n] (w : World) : (results fn (act n e).tmps).run P w = .ok (.tuple #[v, x]) w := by
  have a1 : (slots n e)[t]? = some v := by rw [slots_getElem? n e t hn.out, h.out]
  have a2 : (slots n e)[u]? = some x := by rw [slots_getElem? n e u hn2.out, h2.out]
  simp [results, hr, act, a1, a2]
theorem results_run3 {fn : Func} {t u s : Nat} {v x y : Value} (hr : fn.results = #[.tmp t, .tmp u, .tmp s]) [h : Lk e t v] [hn : Lt t n] [h2 : Lk e u x] [hn2 : Lt u n] [h3 : Lk e s y] [hn3 : Lt s n] (w : World) : (results fn (act n e).tmps).run P w = .ok (.tuple #[v, x, y]) w := by
  have a1 : (slots n e)[t]? = some v := by rw [slots_getElem? n e t hn.out, h.out]
  have a2 : (slots n e)[u]? = some x := by rw [slots_getElem? n e u hn2.out, h2.out]
  have a3 : (slots n e)[s]? = some y := by rw [slots_getElem? n e s hn3.out, h3.out]
  simp [results, hr, act, a1, a2, a3]

theorem sq_of {fn : Func} {R : Value → List Res → Prop} {v : Value} (hr : ∀ w, (results fn (act n e).tmps).run P w = .ok v w) (h : ∃ Rs', R v Rs' ∧ Ent Rs Rs') : SQ (Post P fn w0 R) n w0 .ret e Rs := by
  obtain ⟨Rs', h1, h2⟩ := h
  exact fun w hw => ⟨rfl, v, hr w, v, Rs', rfl, h1, hw.ent h2⟩
theorem sq_of_n {fn : Func} {R : Value → List Res → Prop} {v : Value} (hr : ∀ w, (results fn (act n e).tmps).run P w = .ok v w) (h : ∃ Rs', R v Rs' ∧ Ent Rs Rs') : SQ (Post P fn w0 R) n w0 .normal e Rs := by
  obtain ⟨Rs', h1, h2⟩ := h
  exact fun w hw => ⟨rfl, v, hr w, v, Rs', rfl, h1, hw.ent h2⟩
theorem sq_ret0 {fn : Func} {R : Value → List Res → Prop} (hr : fn.results = #[]) (h : ∃ Rs', R (.tuple #[]) Rs' ∧ Ent Rs Rs') : SQ (Post P fn w0 R) n w0 .ret e Rs := sq_of (fun w => by simp [results, hr]) h
theorem sq_end0 {fn : Func} {R : Value → List Res → Prop} (hr : fn.results = #[]) (h : ∃ Rs', R (.tuple #[]) Rs' ∧ Ent Rs Rs') : SQ (Post P fn w0 R) n w0 .normal e Rs := sq_of_n (fun w => by simp [results, hr]) h
theorem sq_ret1 {fn : Func} {R : Value → List Res → Prop} {t : Nat} {v : Value} (hr : fn.results = #[.tmp t]) [Lk e t v] [Lt t n] (h : ∃ Rs', R v Rs' ∧ Ent Rs Rs') : SQ (Post P fn w0 R) n w0 .ret e Rs := sq_of (results_run1 hr) h
theorem sq_ret2 {fn : Func} {R : Value → List Res → Prop} {t u : Nat} {v x : Value} (hr : fn.results = #[.tmp t, .tmp u]) [Lk e t v] [Lt t n] [Lk e u x] [Lt u n] (h : ∃ Rs', R (.tuple #[v, x]) Rs' ∧ Ent Rs Rs') : SQ (Post P fn w0 R) n w0 .ret e Rs := sq_of (results_run2 hr) h
theorem sq_ret3 {fn : Func} {R : Value → List Res → Prop} {t u s : Nat} {v x y : Value} (hr : fn.results = #[.tmp t, .tmp u, .tmp s]) [Lk e t v] [Lt t n] [Lk e u x] [Lt u n] [Lk e s y] [Lt s n] (h : ∃ Rs', R (.tuple #[v, x, y]) Rs' ∧ Ent Rs Rs') : SQ (Post P fn w0 R) n w0 .ret e Rs := sq_of (results_run3 hr) h

end
end Go.Gsl
