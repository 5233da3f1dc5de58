/- Regions that draw their order, with effects, in a loop's round too. -/
import Derived.Test.YtbmdaiopnnmamaaGsl17
import Derived.Test.YtbmdaiopnnmamaaGsl10
namespace Go.Gsl
set_option linter.unusedVariables false

section
variable {P : Program} {ops : Array Oper} {Q : Exit → Act → World → Prop} {md : Region.Mode} {C : World → Prop} {r : Option Nat}

/-- In every world of the class the operation leaves 'v', and the world as it is. -/
def YieldsR (P : Program) (ops : Array Oper) (C : World → Prop) (o : Oper) (v : Value) (a : Act) : Prop :=
  (Region.wanted o (yielded ops a.tmps) = true ∧ ∀ w, C w → (execOp a.eval o).run P w = .ok (.value v) w) ∨
  (Region.wanted o (yielded ops a.tmps) = false ∧ v = undef)

theorem YieldsR.wpOp {i : Nat} {o : Oper} {v : Value} {a : Act} (hi : ops[i]? = some o) (hd : ∀ c, o.op ≠ .defer c) (hy : YieldsR P ops C o v a)
    {K : Act → World → Prop} {w : World} (hw : C w) (h : K (a.put o.dst v) w) : wpOpIn (fz r) 0 P ops Q i K a w := by
  unfold Go.wpOpIn
  simp only [hi]
  rcases hy with ⟨h1, hv⟩ | ⟨h1, rfl⟩
  · simp only [h1, if_true, Oper.wpIn, show (fz r).round = r from rfl, Oper.semAt_eq r _ _ hd, hv w hw, Oper.uponIn]; exact ⟨fun _ _ => trivial, h⟩
  · simp only [h1, Bool.false_eq_true, if_false]; exact ⟨fun _ _ => trivial, h⟩

theorem YieldsR.of_same {o : Oper} {v : Value} {a a' : Act} (hy : YieldsR P ops C o v a) (he : execOp a'.eval o = execOp a.eval o)
    (hw : Region.wanted o (yielded ops a'.tmps) = Region.wanted o (yielded ops a.tmps)) : YieldsR P ops C o v a' := by
  unfold YieldsR at *
  rw [he, hw]
  exact hy

theorem wpOp_putR {j : Nat} {oi oj : Oper} {v : Value} (hj : ops[j]? = some oj) (hap : oi.apart ops oj = true)
    (hsi : ∀ cs b, oi.op ≠ .select cs b) (hsj : ∀ cs b, oj.op ≠ .select cs b) (hdj : ∀ c, oj.op ≠ .defer c)
    (hQ : ∀ c a w, Q (.panic c) (a.put oi.dst v) w → Q (.panic c) a w) {K : Act → World → Prop} {a : Act} {w : World}
    (hy : YieldsR P ops C oi v a) (h : wpOpIn (fz r) 0 P ops Q j K (a.put oi.dst v) w) :
    wpOpIn (fz r) 0 P ops Q j (fun a' w' => YieldsR P ops C oi v a' ∧ K (a'.put oi.dst v) w') a w := by
  obtain ⟨h1, h2, h3⟩ := Oper.apart_spec hap
  have keep : ∀ (a : Act), YieldsR P ops C oi v a → ∀ u, YieldsR P ops C oi v (a.put oj.dst u) := fun a hy u =>
    hy.of_same (execOp_put oi hsi a oj.dst u h3) (wanted_put oi a oj.dst u h3)
  have keepD : ∀ d, YieldsR P ops C oi v { a with defers := d :: a.defers } := fun d => hy.of_same rfl rfl
  unfold wpOpIn at *
  simp only [hj] at *
  rw [wanted_put oj a oi.dst v h1] at h
  have hro : (fz r).round = r := rfl
  split
  · rename_i hw
    simp only [hw, if_true] at h
    unfold Oper.wpIn at *
    refine ⟨fun _ _ => trivial, ?_⟩
    have h := h.2
    rw [hro, Oper.semAt_eq r _ _ hdj, execOp_put oj hsj a oi.dst v h1] at h
    rw [hro, Oper.semAt_eq r _ _ hdj]
    generalize (execOp a.eval oj).run P w = r at *
    cases r with
    | ok x w' =>
      cases x <;> simp only [Oper.uponIn] at h ⊢
      case value u => exact ⟨keep a hy u, by rw [← Act.put_comm a v u h2]; exact h⟩
      case skip => exact ⟨keep a hy _, by rw [← Act.put_comm a v undef h2]; exact h⟩
      case defer d =>
        refine ⟨keep _ (keepD d) _, ?_⟩
        rw [← Act.put_comm _ v undef h2, ← Act.put_defers]
        exact h
      case enter f args =>
        refine ⟨h.1, CallsIn.mono h.2 fun e w'' he => ?_⟩
        cases e with
        | returned u => exact ⟨keep a hy u, by rw [← Act.put_comm a v u h2]; exact he⟩
        | panicked c => exact hQ _ _ _ he
        | outgrown => exact he
      case row row args => exact ⟨h.1, RowsIn.mono h.2 fun u w'' he => ⟨keep a hy u, by rw [← Act.put_comm a v u h2]; exact he⟩⟩
      case round l f tmps assign body =>
        refine ⟨h.1, RoundIn.mono h.2 fun e w'' he => ?_⟩
        cases e with
        | returned u => exact ⟨keep a hy u, by rw [← Act.put_comm a v u h2]; exact he⟩
        | panicked c => exact hQ _ _ _ he
        | outgrown => exact he
    | halt x w' =>
      cases x <;> simp only [Oper.uponIn] at h ⊢
      case panic u => exact hQ _ _ _ h
  · rename_i hw
    simp only [hw] at h
    exact ⟨fun _ _ => trivial, keep a hy _, by rw [← Act.put_comm a v undef h2]; exact h.2⟩

/-- Whatever order is picked from here on, each world on the way being of the class. -/
def wpAnyR (r : Option Nat) (P : Program) (md : Region.Mode) (ops : Array Oper) (C : World → Prop) (Q : Exit → Act → World → Prop) : Nat → Array Bool → Act → World → Prop
  | 0, listed, a, w => C w ∧ Region.ready md ops listed = [] ∧ Q .normal a w
  | fuel + 1, listed, a, w =>
    C w ∧ (Region.ready md ops listed = [] → Q .normal a w) ∧
    ∀ i ∈ Region.ready md ops listed, wpOpIn (fz r) 0 P ops Q i (wpAnyR r P md ops C Q fuel (listed.setIfInBounds i true)) a w

theorem wpAnyR.cls {fuel : Nat} {listed : Array Bool} {a : Act} {w : World} (h : wpAnyR r P md ops C Q fuel listed a w) : C w := by
  cases fuel with
  | zero => exact h.1
  | succ f => exact h.1

theorem wpAny_of_R : ∀ (fuel : Nat) (listed : Array Bool) (a : Act) (w : World), wpAnyR r P md ops C Q fuel listed a w → wpAnyIn (fz r) 0 P md ops Q fuel listed a w
  | 0, _, _, _, h => h.2
  | fuel + 1, _, _, _, h => ⟨h.2.1, fun i hi => wpOpIn_mono (fun a' w' => wpAny_of_R fuel _ a' w') (h.2.2 i hi)⟩

theorem wpAnyR_first {i : Nat} {oi : Oper} {v : Value} (hi : ops[i]? = some oi) (hsel : ∀ (j : Nat) (o : Oper) cs b, ops[j]? = some o → o.op ≠ .select cs b) (hdef : ∀ (j : Nat) (o : Oper) c, ops[j]? = some o → o.op ≠ .defer c)
    (hQ : ∀ c a w, Q (.panic c) (a.put oi.dst v) w → Q (.panic c) a w) :
    ∀ (fuel : Nat) (listed : Array Bool) (a : Act) (w : World),
      (∀ j oj, ops[j]? = some oj → j ≠ i → listed.getD j true = false → (∀ e ∈ oj.after, Region.binds md e = true → e.on ≠ i) → oi.apart ops oj = true) →
      i ∈ Region.ready md ops listed → YieldsR P ops C oi v a →
      wpAnyR r P md ops C Q fuel (listed.setIfInBounds i true) (a.put oi.dst v) w → wpAnyR r P md ops C Q (fuel + 1) listed a w := by
  intro fuel
  induction fuel with
  | zero =>
    intro listed a w _ hr hy H
    refine ⟨H.cls, fun h => (by rw [h] at hr; cases hr), fun j hj => ?_⟩
    by_cases hji : j = i
    · subst hji; exact hy.wpOp hi (fun c => hdef _ _ c hi) H.cls H
    · have := ready_mono hj hji
      rw [H.2.1] at this
      cases this
  | succ fuel ih =>
    intro listed a w hfree hr hy H
    refine ⟨H.cls, fun h => (by rw [h] at hr; cases hr), fun j hj => ?_⟩
    by_cases hji : j = i
    · subst hji; exact hy.wpOp hi (fun c => hdef _ _ c hi) H.cls H
    · have h1 := H.2.2 j (ready_mono hj hji)
      obtain ⟨hjun, oj, hoj, hall⟩ := mem_ready.1 hj
      have hnot : ∀ e ∈ oj.after, Region.binds md e = true → e.on ≠ i := fun e he hb heq => by
        have h1 := hall e he hb
        have h0 := (mem_ready.1 hr).1
        rw [heq] at h1
        rcases Nat.lt_or_ge i listed.size with h' | h'
        · simp [h'] at h0 h1; rw [h0] at h1; cases h1
        · simp [Array.getElem?_eq_none h'] at h1
      have h2 := wpOp_putR hoj (hfree j oj hoj hji hjun hnot) (fun cs b => hsel i oi cs b hi) (fun cs b => hsel j oj cs b hoj) (fun c => hdef j oj c hoj) hQ hy h1
      have hfree' : ∀ k ok, ops[k]? = some ok → k ≠ i → (listed.setIfInBounds j true).getD k true = false →
          (∀ e ∈ ok.after, Region.binds md e = true → e.on ≠ i) → oi.apart ops ok = true := fun k ok hk hki hun hno => by
        refine hfree k ok hk hki ?_ hno
        by_cases hjk : j = k
        · subst hjk; exact hjun
        · rw [getD_set_ne true hjk] at hun; exact hun
      refine wpOpIn_mono (fun a' w' h3 => ih (listed.setIfInBounds j true) a' w' hfree' (ready_mono hr (Ne.symm hji)) h3.1 ?_) h2
      rw [Array.setIfInBounds_comm _ _ hji]
      exact h3.2

end

/-- no 'defer' among these -/
def noDefer (ops : List Oper) : Bool := ops.all fun o => match o.op with
  | .defer _ => false
  | _ => true
theorem noDefer_spec {ops : List Oper} (h : noDefer ops = true) : ∀ (j : Nat) (o : Oper) c, ops.toArray[j]? = some o → o.op ≠ .defer c := by
  intro j o c hj he
  have h1 := (List.all_eq_true.1 h) o (List.mem_of_getElem? (by simpa using hj))
  rw [he] at h1
  cases h1

section
variable {P : Program} {ops : List Oper} {Q : Cont} {n : Nat} {w0 : World} {l rest : List Oper} {e : Env} {Rs Rs' F G : List Res} {fuel : Nat} {listed : Array Bool}

/-- Whatever order is picked from here on: 'listed' has been done; 'G' is what no operation turns that was or will be taken out of turn. -/
def SH (P : Program) (ops : List Oper) (Q : Cont) (n : Nat) (w0 : World) (G : List Res) (fuel : Nat) (listed : Array Bool) (e : Env) (Rs : List Res) : Prop :=
  noDefer ops = true ∧ ∀ w, Sat w0 w Rs → wpAnyR Q.r P .any ops.toArray (fun w => Sat w0 w G) Q.q fuel listed (actM Q.m n e) w

theorem sc_drawH {id : Nat} {m : Nat} (G : List Res) (hm : P.follows .mixedOrders = true) (hl : l.length = m) (h : SH P l Q n w0 G m (Array.replicate m false) e Rs) : SC P Q n w0 (.region id l.toArray true) e Rs := by
  subst hl
  intro w hw
  obtain ⟨hr, h⟩ := h
  refine wpIn_region_any hm ?_
  have := wpAny_of_R _ _ _ _ (h _ (hw.draw (w.drawn + 1)))
  simpa using this

theorem sc_drawCH {id : Nat} {m : Nat} (G : List Res) (hc : Calm Q) (hm : P.follows .mixedOrders = true) (hl : l.length = m) (h : Calm Q → SH P l Q n w0 G m (Array.replicate m false) e Rs) : SC P Q n w0 (.region id l.toArray true) e Rs := sc_drawH G hm hl (h hc)

theorem sh_take {d : Nat} {op : Op} {ty : TypeId} {pos : String} {after : Array Edge} {v : Value} (i : Nat) (hc : Calm Q) (hi : ops[i]? = some { dst := some d, op := op, type := ty, pos := pos, after := after, guard := none })
    (hs : Region.noSelect ops.toArray = true) (hf : Region.free .any ops.toArray listed i = true) (hr : (Region.ready .any ops.toArray listed).contains i = true) [h : RunOp P n w0 e G op ty v]
    (k : SH P ops Q n w0 G fuel (listed.setIfInBounds i true) ((d, v) :: e) Rs) : SH P ops Q n w0 G (fuel + 1) listed e Rs := by
  refine ⟨k.1, fun w hw => ?_⟩
  have hi' : ops.toArray[i]? = some { dst := some d, op := op, type := ty, pos := pos, after := after, guard := none } := by simpa using hi
  refine wpAnyR_first hi' (Region.noSelect_spec hs) (noDefer_spec k.1) (fun c a w => hc c a _ v w) fuel listed _ w (Region.free_spec hi' hf) (by simpa using hr) (.inl ⟨by simp [Region.wanted], fun w hw => h.run _ rfl rfl w hw⟩) ?_
  rw [actM_put]; exact k.2 w hw

theorem sh_take_as {d : Nat} {op : Op} {ty : TypeId} {pos : String} {after : Array Edge} {v v' : Value} (i : Nat) (hc : Calm Q) (hi : ops[i]? = some { dst := some d, op := op, type := ty, pos := pos, after := after, guard := none })
    (hs : Region.noSelect ops.toArray = true) (hf : Region.free .any ops.toArray listed i = true) (hr : (Region.ready .any ops.toArray listed).contains i = true) [h : RunOp P n w0 e G op ty v] (hv : v = v')
    (k : SH P ops Q n w0 G fuel (listed.setIfInBounds i true) ((d, v') :: e) Rs) : SH P ops Q n w0 G (fuel + 1) listed e Rs := by
  subst hv; exact sh_take i hc hi hs hf hr k

theorem sh_skip {d : Nat} {op : Op} {ty : TypeId} {pos : String} {after : Array Edge} {j t : Nat} {b c : Bool} (i : Nat) (hc : Calm Q) (hi : ops[i]? = some { dst := some d, op := op, type := ty, pos := pos, after := after, guard := some (j, b) })
    (hs : Region.noSelect ops.toArray = true) (hf : Region.free .any ops.toArray listed i = true) (hr : (Region.ready .any ops.toArray listed).contains i = true) [hd : DstAt ops j t] [hl : Lk e t (.bool c)] [hn : Lt t n] [hb : BNe c b]
    (k : SH P ops Q n w0 G fuel (listed.setIfInBounds i true) ((d, undef) :: e) Rs) : SH P ops Q n w0 G (fuel + 1) listed e Rs := by
  refine ⟨k.1, fun w hw => ?_⟩
  have hi' : ops.toArray[i]? = some { dst := some d, op := op, type := ty, pos := pos, after := after, guard := some (j, b) } := by simpa using hi
  refine wpAnyR_first (v := undef) hi' (Region.noSelect_spec hs) (noDefer_spec k.1) (fun c a w => hc c a _ undef w) fuel listed _ w (Region.free_spec hi' hf) (by simpa using hr) (.inr ⟨?_, rfl⟩) ?_
  · simp only [Region.wanted, actM_tmps, yielded_of (n := n) (e := e) (ops := ops) (j := j) (t := t) (b := c)]
    simpa using hb.out
  · rw [actM_put]; exact k.2 w hw

theorem sh_take_g {d : Nat} {op : Op} {ty : TypeId} {pos : String} {after : Array Edge} {j t : Nat} {b : Bool} {v : Value} (i : Nat) (hc : Calm Q) (hi : ops[i]? = some { dst := some d, op := op, type := ty, pos := pos, after := after, guard := some (j, b) })
    (hs : Region.noSelect ops.toArray = true) (hf : Region.free .any ops.toArray listed i = true) (hr : (Region.ready .any ops.toArray listed).contains i = true) [hd : DstAt ops j t] [hl : Lk e t (.bool b)] [hn : Lt t n] [h : RunOp P n w0 e G op ty v]
    (k : SH P ops Q n w0 G fuel (listed.setIfInBounds i true) ((d, v) :: e) Rs) : SH P ops Q n w0 G (fuel + 1) listed e Rs := by
  refine ⟨k.1, fun w hw => ?_⟩
  have hi' : ops.toArray[i]? = some { dst := some d, op := op, type := ty, pos := pos, after := after, guard := some (j, b) } := by simpa using hi
  refine wpAnyR_first hi' (Region.noSelect_spec hs) (noDefer_spec k.1) (fun c a w => hc c a _ v w) fuel listed _ w (Region.free_spec hi' hf) (by simpa using hr) (.inl ⟨?_, fun w hw => h.run _ rfl rfl w hw⟩) ?_
  · simp only [Region.wanted, actM_tmps, yielded_of (n := n) (e := e) (ops := ops) (j := j) (t := t) (b := b)]
    simp
  · rw [actM_put]; exact k.2 w hw

theorem sh_take_g_as {d : Nat} {op : Op} {ty : TypeId} {pos : String} {after : Array Edge} {j t : Nat} {b : Bool} {v v' : Value} (i : Nat) (hc : Calm Q) (hi : ops[i]? = some { dst := some d, op := op, type := ty, pos := pos, after := after, guard := some (j, b) })
    (hs : Region.noSelect ops.toArray = true) (hf : Region.free .any ops.toArray listed i = true) (hr : (Region.ready .any ops.toArray listed).contains i = true) [hd : DstAt ops j t] [hl : Lk e t (.bool b)] [hn : Lt t n] [h : RunOp P n w0 e G op ty v] (hv : v = v')
    (k : SH P ops Q n w0 G fuel (listed.setIfInBounds i true) ((d, v') :: e) Rs) : SH P ops Q n w0 G (fuel + 1) listed e Rs := by
  subst hv; exact sh_take_g (j := j) (t := t) (b := b) i hc hi hs hf hr k

/-- A value that is not decided yet, both ways. -/
theorem sh_split {c : Bool} {p : Prop} (t : Nat) [hl : Lk e t (.bool c)] [hp : BP c p] (k1 : p → SH P ops Q n w0 G fuel listed ((t, .bool true) :: e) Rs) (k2 : ¬ p → SH P ops Q n w0 G fuel listed ((t, .bool false) :: e) Rs) : SH P ops Q n w0 G fuel listed e Rs := by
  cases c with
  | true => refine ⟨(k1 (hp.out.1 rfl)).1, fun w hw => ?_⟩; rw [actM_says (e := e) (l := [(t, .bool true)]) ⟨hl.out, trivial⟩]; exact (k1 (hp.out.1 rfl)).2 w hw
  | false => refine ⟨(k2 (fun h => by have := hp.out.2 h; cases this)).1, fun w hw => ?_⟩; rw [actM_says (e := e) (l := [(t, .bool false)]) ⟨hl.out, trivial⟩]; exact (k2 (fun h => by have := hp.out.2 h; cases this)).2 w hw

/-- the region's rest -/
def Cont.drawsR (P : Program) (ops : List Oper) (w0 : World) (G : List Res) (fuel : Nat) (listed : Array Bool) (Q : Cont) : Cont :=
  ⟨Q.r, Q.m, Exit.then (fun a w => wpAnyR Q.r P .any ops.toArray (fun w => Sat w0 w G) Q.q fuel listed a w) Q.q⟩

/-- Only 'i' may come up: it is carried out as in any list. -/
theorem sh_one {o : Oper} (i : Nat) (hi : ops[i]? = some o) (hr : Region.ready .any ops.toArray listed = [i]) (hq : noDefer ops = true) [hG : Sub Rs G]
    (k : SW P ops (Q.drawsR P ops w0 G fuel (listed.setIfInBounds i true)) n w0 [o] e Rs) : SH P ops Q n w0 G (fuel + 1) listed e Rs := by
  refine ⟨hq, fun w hw => ⟨hw.ent hG.ent, fun h => (by rw [h] at hr; cases hr), fun j hj => ?_⟩⟩
  rw [hr, List.mem_singleton] at hj
  subst hj
  have hi' : ops.toArray[j]? = some o := by simpa using hi
  have := k w hw
  unfold wpOpIn
  simp only [hi']
  rw [show (Q.drawsR P ops w0 G fuel (listed.setIfInBounds j true)).r = Q.r from rfl, show (Q.drawsR P ops w0 G fuel (listed.setIfInBounds j true)).m = Q.m from rfl] at this
  unfold wpListIn at this
  split
  · rename_i hw'
    rw [if_pos hw'] at this
    obtain ⟨h1, h⟩ := this
    refine ⟨h1, ?_⟩
    unfold Oper.uponIn at h ⊢
    exact h
  · rename_i hw'
    rw [if_neg hw'] at this
    exact this

theorem sh_back (h : SH P ops Q n w0 G fuel listed e Rs) : SQ (Q.drawsR P ops w0 G fuel listed) n w0 .normal e Rs := fun w hw => h.2 w hw

theorem sh_done (hr : Region.ready .any ops.toArray listed = []) (hq : noDefer ops = true) [hG : Sub Rs G] (h : SQ Q n w0 .normal e Rs) : SH P ops Q n w0 G 0 listed e Rs := ⟨hq, fun w hw => ⟨hw.ent hG.ent, hr, h w hw⟩⟩

theorem Calm.rEnd {lp : Nat} {rc : Loop} {S : List Res} {Sx : Code → List Res} {F' : List Res} : Calm (Cont.rEnd P lp rc S Sx w0 F') := fun c a d v w x => x.elim
end
end Go.Gsl
