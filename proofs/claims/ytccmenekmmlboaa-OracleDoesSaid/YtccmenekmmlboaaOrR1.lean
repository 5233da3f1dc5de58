/- The document's oracle. -/
import Derived.Test.YtccmenekmmlboaaOr5
import Derived.Test.YtccmenekmmlboaaOrN
import Derived.Test.YtccmenekmmlboaaGsl16
namespace Go.Gsl
set_option linter.unusedVariables false
open Go.Proofs Go.RowKit

/-- its cells: the last timestamp, the pending ones, which sessions are open, their snapshots -/
abbrev oR (L : Int) (pv : Value) (f g : Nat → Value) : List Value := .int .i64 L :: pv :: (cellsOf f 17 ++ cellsOf g 17)
theorem oR_is {L : Int} {pv : Value} {f g : Nat → Value} {i : Nat} (h : i < 17) : (oR L pv f g)[2 + i]? = some (f i) := by
  rw [Nat.add_comm]
  show (cellsOf f 17 ++ cellsOf g 17)[i]? = _
  exact cellsOf_get h
theorem oR_at {L : Int} {pv : Value} {f g : Nat → Value} {i : Nat} (h : i < 17) : (oR L pv f g)[19 + i]? = some (g i) := by
  rw [show 19 + i = (17 + i) + 2 by omega]
  show (cellsOf f 17 ++ cellsOf g 17)[17 + i]? = _
  rw [List.getElem?_append_right (by rw [cellsOf_len]; omega), cellsOf_len, show 17 + i - 17 = i by omega]
  have := cellsOf_get (f := g) (r := []) h
  rwa [List.append_nil] at this
theorem oR_len {L : Int} {pv : Value} {f g : Nat → Value} : (oR L pv f g).length = 36 := by
  show (cellsOf f 17 ++ cellsOf g 17).length + 1 + 1 = 36
  rw [List.length_append, cellsOf_len, cellsOf_len]
theorem oR_setis {L : Int} {pv : Value} {f g : Nat → Value} {i : Nat} {v : Value} (h : i < 17) : (oR L pv f g).set (2 + i) v = oR L pv (fun j => if j = i then v else f j) g := by
  rw [Nat.add_comm]
  show _ :: _ :: (cellsOf f 17 ++ cellsOf g 17).set i v = _
  rw [cellsOf_set h]
theorem oR_setat {L : Int} {pv : Value} {f g : Nat → Value} {i : Nat} {v : Value} (h : i < 17) : (oR L pv f g).set (19 + i) v = oR L pv f (fun j => if j = i then v else g j) := by
  rw [show 19 + i = (17 + i) + 2 by omega]
  show _ :: _ :: (cellsOf f 17 ++ cellsOf g 17).set (17 + i) v = _
  rw [List.set_append_right _ _ (by rw [cellsOf_len]; omega), cellsOf_len, show 17 + i - 17 = i by omega]
  have := cellsOf_set (f := g) (r := []) (v := v) h
  rw [List.append_nil, List.append_nil] at this
  rw [this]

/-- the pending timestamps, rising -/
structure PendL (s : Or) (P : List Int) : Prop where
  lt : P.Pairwise (· < ·)
  mem : ∀ j, j ∈ P ↔ s.pub < j ∧ j ≤ s.last ∧ s.A j = false
theorem PendL.nodup {s : Or} {P : List Int} (h : PendL s P) : P.Nodup := h.lt.imp fun hab => by omega
theorem PendL.unique {s : Or} {P P' : List Int} (h : PendL s P) (h' : PendL s P') : P = P' := by
  have sorted : ∀ (xs ys : List Int), xs.Pairwise (· < ·) → ys.Pairwise (· < ·) → (∀ i, i ∈ xs ↔ i ∈ ys) → xs = ys := by
    intro xs
    induction xs with
    | nil => intro ys _ _ h; cases ys with
      | nil => rfl
      | cons y ys => have := (h y).2 (by simp); simp at this
    | cons x xs ih => intro ys p1 p2 h; cases ys with
      | nil => have := (h x).1 (by simp); simp at this
      | cons y ys =>
        rw [List.pairwise_cons] at p1 p2
        have hxy : x = y := by
          rcases List.mem_cons.1 ((h x).1 (by simp)) with e | h1
          · exact e
          rcases List.mem_cons.1 ((h y).2 (by simp)) with e | h2
          · exact e.symm
          have := p1.1 y h2
          have := p2.1 x h1
          omega
        subst hxy
        rw [ih ys p1.2 p2.2 fun i => ?_]
        constructor
        · intro hi
          rcases List.mem_cons.1 ((h i).1 (by simp [hi])) with e | h1
          · subst e; have := p1.1 _ hi; omega
          · exact h1
        · intro hi
          rcases List.mem_cons.1 ((h i).2 (by simp [hi])) with e | h1
          · subst e; have := p2.1 _ hi; omega
          · exact h1
  exact sorted P P' h.lt h'.lt fun j => by rw [h.mem, h'.mem]
theorem PendL.pub {s : Or} {P : List Int} (hw : s.Wf) (h : PendL s P) : (P = [] ∧ s.pub = s.last) ∨ ∃ R, P = (s.pub + 1) :: R := by
  cases P with
  | nil =>
    refine .inl ⟨rfl, ?_⟩
    have h1 := h.mem (s.pub + 1)
    have h2 := hw.pl
    rcases Int.lt_or_le s.pub s.last with h3 | h3
    · have := h1.2 ⟨by omega, by omega, hw.a1⟩; simp at this
    · omega
  | cons x R =>
    refine .inr ⟨R, ?_⟩
    have hx := (h.mem x).1 (by simp)
    have h1 := (h.mem (s.pub + 1)).2 ⟨by omega, by omega, hw.a1⟩
    have hlt := h.lt
    rw [List.pairwise_cons] at hlt
    rcases List.mem_cons.1 h1 with e | h2
    · rw [e]
    · have := hlt.1 _ h2; omega

theorem lt_len : ∀ (P : List Int) (a b : Int), a ≤ b → P.Pairwise (· < ·) → (∀ j ∈ P, a < j ∧ j ≤ b) → (P.length : Int) ≤ b - a
  | [], a, b, h, _, _ => by simp; omega
  | x :: P, a, b, h, hp, hm => by
    rw [List.pairwise_cons] at hp
    have hx := hm x (by simp)
    have := lt_len P x b (by omega) hp.2 fun j hj => ⟨hp.1 j hj, (hm j (by simp [hj])).2⟩
    simp only [List.length_cons]
    omega
theorem PendL.few {s : Or} {P : List Int} (hw : s.Wf) (h : PendL s P) : P.length ≤ 1099511627776 := by
  have h1 := lt_len P s.pub s.last hw.pl h.lt fun j hj => by have := (h.mem j).1 hj; omega
  have h2 := hw.p0
  have h3 := hw.lm
  omega

def jV (P : List Int) : Option (Nat × List Value) → Value
  | none => .slice none 0 0
  | some (b, r) => .slice (some ⟨b, 0, none⟩) P.length (P.length + r.length)
def jR (P : List Int) (F : List Res) : Option (Nat × List Value) → List Res
  | none => F
  | some (b, r) => (b, pts b (.cells (P.map (Value.int .i64) ++ r).toArray 2 (0, 0))) :: F
theorem jV_one (P : List Int) (y : Option (Nat × List Value)) : One (jV P y) := ⟨by cases y <;> rfl⟩

structure OX where
  f : Nat → Value
  g : Nat → Int
  P : List Int
  y : Option (Nat × List Value)
structure OX.Ok (x : OX) (s : Or) : Prop where
  wf : s.Wf
  pend : PendL s x.P
  nil : x.y = none → x.P = []
  is' : ∀ i : Nat, i < 17 → x.f i = .bool (s.O i).isSome
  at' : ∀ (i : Nat) t, s.O i = some t → x.g i = t
abbrev orefO (L : Int) (pv : Value) (f : Nat → Value) (g : Nat → Int) : Obj := .cells (oR L pv f (fun i => .int .i64 (g i))).toArray 51 (0, 0)
def RFl (p : Nat) (s : Or) (x : OX) (F : List Res) : List Res := (p, pts p (orefO s.last (jV x.P x.y) x.f x.g)) :: jR x.P F x.y
/-- The document's oracle stands at p. -/
def RF (p : Nat) (s : Or) : HProp := fun h => ∃ x : OX, x.Ok s ∧ hall (RFl p s x []) h
theorem jR_app (P : List Int) (F : List Res) (y : Option (Nat × List Value)) : jR P F y = jR P [] y ++ F := by cases y <;> rfl
theorem RF.openS {p k : Nat} {s : Or} {F : List Res} {w0 w : World} (hs : Sat w0 w ((k, RF p s) :: F)) : ∃ x : OX, x.Ok s ∧ Sat w0 w (RFl p s x F) := by
  obtain ⟨x, hx, h⟩ := hs.opn (φ := fun x : OX => x.Ok s) (p := fun x => hall (RFl p s x [])) fun y ⟨x, h1, h2⟩ => ⟨x, h1, h2⟩
  refine ⟨x, hx, ?_⟩
  have h2 := h.ent (Ent.hall_open _ _ _)
  unfold RFl at h2 ⊢
  rw [jR_app]; exact h2
theorem RF.close {p : Nat} {s : Or} {x : OX} {F : List Res} (hx : x.Ok s) : Ent (RFl p s x F) ((p, RF p s) :: F) := by
  have h1 := (Ent.hall_close p (RFl p s x []) F).trans (Ent.head (k := p) (F := F) fun _ h => (⟨x, hx, h⟩ : RF p s _))
  unfold RFl at h1 ⊢
  rw [jR_app]; exact h1
section
variable {P : Program} {ops : List Oper} {Q : Cont} {n : Nat} {w0 : World} {l : List Oper} {e : Env} {Rs F : List Res}
theorem RF.sc {c : Code} {p : Nat} {s : Or} [t : Take Rs p (RF p s) F] (h : ∀ x : OX, x.Ok s → SC P Q n w0 c e (RFl p s x F)) : SC P Q n w0 c e Rs := by
  intro w hw
  obtain ⟨x, hx, hs⟩ := RF.openS (hw.ent t.ent)
  exact h x hx w hs
theorem RF.sw {p : Nat} {s : Or} [t : Take Rs p (RF p s) F] (h : ∀ x : OX, x.Ok s → SW P ops Q n w0 l e (RFl p s x F)) : SW P ops Q n w0 l e Rs := by
  intro w hw
  obtain ⟨x, hx, hs⟩ := RF.openS (hw.ent t.ent)
  exact h x hx w hs
end

theorem r94_ok (i : Int) : Spec Try.prog 94 [.int .i64 i] [] [] fun F v Rs' => v = .bool (decide (0 ≤ i ∧ i ≤ 16)) ∧ Rs' = F := by
  refine spec_of Try.func94 rfl Try.ntmps94 rfl ?_
  intro w0 F
  repeat' (first | with_reducible refine sw_op ?_ | with_reducible refine sw_op_ ?_ | with_reducible refine sw_nil ?_ | with_reducible refine sq_then ?_ | with_reducible refine sc_seq ?_ | with_reducible refine sc_region ?_ | with_reducible refine sw_guard_skip ?_ | with_reducible refine sw_guard_skip_ ?_ | with_reducible refine sw_guard_run ?_ | with_reducible refine sc_cond_true ?_ | with_reducible refine sc_cond_false ?_ | with_reducible refine sc_ret ?_ | with_reducible refine sq_then_ret ?_ | with_reducible refine sc_skip ?_ | with_reducible refine sc_block ?_ | with_reducible refine sq_block ?_ | with_reducible refine sq_block_ret ?_ | with_reducible refine sc_exit ?_ | with_reducible refine sq_then_exit ?_ | with_reducible refine sq_block_exit ?_ | with_reducible refine sq_block_past ?_ | with_reducible refine sq_round_ret ?_ | with_reducible refine sq_round_exit ?_ | (with_reducible refine sc_cond (fun h => ?_) (fun h => ?_)) <;> (try (exfalso; first | contradiction | omega | exact h Iff.rfl)) | (with_reducible refine sw_guard_split (fun h => ?_) (fun h => ?_)) <;> (try (exfalso; first | contradiction | omega | exact h Iff.rfl)) | (with_reducible refine sw_pick (fun h => ?_) (fun h => ?_)) <;> (try (exfalso; first | contradiction | omega | exact h Iff.rfl)) | fail)
  all_goals
    refine sq_ret1 Try.results94 ⟨_, ⟨?_, rfl⟩, Ent.refl _⟩
    simp [h]

/-- Published -/
theorem r27_ok (p : Nat) (s : Or) : Spec Try.prog 27 [.pointer (some ⟨p, 0, none⟩)] [p] [RF p s] fun F v Rs' => v = .int .i64 s.pub ∧ Rs' = (p, RF p s) :: F := by
  refine spec_of Try.func27 rfl Try.ntmps27 rfl ?_
  intro w0 F
  refine RF.sc (p := p) (s := s) fun x hx => ?_
  have hp0 := hx.wf.p0
  have hlm := hx.wf.lm
  have hpl := hx.wf.pl
  have hcl : Ent (RFl p s x F) ((p, RF p s) :: F) := RF.close hx
  have hpb := PendL.pub hx.wf hx.pend
  have hnil := hx.nil
  obtain ⟨f, g, L, y⟩ := x
  unfold RFl at hcl ⊢
  dsimp only at hcl hpb hnil ⊢
  cases y with
  | none =>
    have hnil : L = [] := hnil rfl
    subst hnil
    have hpub : s.pub = s.last := by
      rcases hpb with h | ⟨R, h⟩
      · exact h.2
      · cases h
    dsimp only [jV, jR] at hcl ⊢
    repeat' (first | with_reducible refine sw_i64 (by omega) ?_ | with_reducible refine sw_op ?_ | with_reducible refine sw_op_ ?_ | with_reducible refine sw_nil ?_ | with_reducible refine sq_then ?_ | with_reducible refine sc_seq ?_ | with_reducible refine sc_region ?_ | with_reducible refine sw_guard_skip ?_ | with_reducible refine sw_guard_skip_ ?_ | with_reducible refine sw_guard_run ?_ | with_reducible refine sc_cond_true ?_ | with_reducible refine sc_cond_false ?_ | with_reducible refine sc_ret ?_ | with_reducible refine sq_then_ret ?_ | with_reducible refine sc_skip ?_ | with_reducible refine sc_block ?_ | with_reducible refine sq_block ?_ | with_reducible refine sq_block_ret ?_ | with_reducible refine sc_exit ?_ | with_reducible refine sq_then_exit ?_ | with_reducible refine sq_block_exit ?_ | with_reducible refine sq_block_past ?_ | with_reducible refine sq_round_ret ?_ | with_reducible refine sq_round_exit ?_ | (with_reducible refine sc_cond (fun h => ?_) (fun h => ?_)) <;> (try (exfalso; first | contradiction | omega | exact h Iff.rfl)) | fail)
    refine sq_ret1 Try.results27 ⟨_, ⟨by rw [hpub], rfl⟩, Ent.trans ?_ hcl⟩
    repeat' (first | with_reducible exact Ent.refl _ | with_reducible refine Ent.take_eq ?_ ?_ | rfl | with_reducible refine Ent.trans (Ent.drop _ _) ?_)
  | some y =>
    obtain ⟨b, r⟩ := y
    dsimp only [jV, jR] at hcl ⊢
    rcases hpb with ⟨rfl, hpub⟩ | ⟨R, rfl⟩
    · repeat' (first | with_reducible refine sw_i64 (by omega) ?_ | with_reducible refine sw_op ?_ | with_reducible refine sw_op_ ?_ | with_reducible refine sw_nil ?_ | with_reducible refine sq_then ?_ | with_reducible refine sc_seq ?_ | with_reducible refine sc_region ?_ | with_reducible refine sw_guard_skip ?_ | with_reducible refine sw_guard_skip_ ?_ | with_reducible refine sw_guard_run ?_ | with_reducible refine sc_cond_true ?_ | with_reducible refine sc_cond_false ?_ | with_reducible refine sc_ret ?_ | with_reducible refine sq_then_ret ?_ | with_reducible refine sc_skip ?_ | with_reducible refine sc_block ?_ | with_reducible refine sq_block ?_ | with_reducible refine sq_block_ret ?_ | with_reducible refine sc_exit ?_ | with_reducible refine sq_then_exit ?_ | with_reducible refine sq_block_exit ?_ | with_reducible refine sq_block_past ?_ | with_reducible refine sq_round_ret ?_ | with_reducible refine sq_round_exit ?_ | (with_reducible refine sc_cond (fun h => ?_) (fun h => ?_)) <;> (try (exfalso; first | contradiction | omega | exact h Iff.rfl)) | fail)
      refine sq_ret1 Try.results27 ⟨_, ⟨by rw [hpub], rfl⟩, Ent.trans ?_ hcl⟩
      repeat' (first | with_reducible exact Ent.refl _ | with_reducible refine Ent.take_eq ?_ ?_ | rfl | with_reducible refine Ent.trans (Ent.drop _ _) ?_)
    · have hpos : 0 < ((s.pub + 1) :: R).length := by simp
      repeat' (first | with_reducible refine sw_op ?_ | with_reducible refine sw_op_ ?_ | with_reducible refine sw_nil ?_ | with_reducible refine sq_then ?_ | with_reducible refine sc_seq ?_ | with_reducible refine sc_region ?_ | with_reducible refine sw_guard_skip ?_ | with_reducible refine sw_guard_skip_ ?_ | with_reducible refine sw_guard_run ?_ | with_reducible refine sc_cond_true ?_ | with_reducible refine sc_cond_false ?_ | with_reducible refine sc_ret ?_ | with_reducible refine sq_then_ret ?_ | with_reducible refine sc_skip ?_ | with_reducible refine sc_block ?_ | with_reducible refine sq_block ?_ | with_reducible refine sq_block_ret ?_ | with_reducible refine sc_exit ?_ | with_reducible refine sq_then_exit ?_ | with_reducible refine sq_block_exit ?_ | with_reducible refine sq_block_past ?_ | with_reducible refine sq_round_ret ?_ | with_reducible refine sq_round_exit ?_ | (with_reducible refine sc_cond (fun h => ?_) (fun h => ?_)) <;> (try (exfalso; first | contradiction | omega | exact h Iff.rfl)) | fail)
      refine sw_idx 0 (by omega) ?_
      refine sw_loadAt (.int .i64 (s.pub + 1)) rfl ?_
      repeat' (first | with_reducible refine sw_i64 (by omega) ?_ | with_reducible refine sw_op ?_ | with_reducible refine sw_op_ ?_ | with_reducible refine sw_nil ?_ | with_reducible refine sq_then ?_ | with_reducible refine sc_seq ?_ | with_reducible refine sc_region ?_ | with_reducible refine sw_guard_skip ?_ | with_reducible refine sw_guard_skip_ ?_ | with_reducible refine sw_guard_run ?_ | with_reducible refine sc_cond_true ?_ | with_reducible refine sc_cond_false ?_ | with_reducible refine sc_ret ?_ | with_reducible refine sq_then_ret ?_ | with_reducible refine sc_skip ?_ | with_reducible refine sc_block ?_ | with_reducible refine sq_block ?_ | with_reducible refine sq_block_ret ?_ | with_reducible refine sc_exit ?_ | with_reducible refine sq_then_exit ?_ | with_reducible refine sq_block_exit ?_ | with_reducible refine sq_block_past ?_ | with_reducible refine sq_round_ret ?_ | with_reducible refine sq_round_exit ?_ | fail)
      refine sq_ret1 Try.results27 ⟨_, ⟨by congr 1; omega, rfl⟩, Ent.trans ?_ hcl⟩
      repeat' (first | with_reducible exact Ent.refl _ | with_reducible refine Ent.take_eq ?_ ?_ | rfl | with_reducible refine Ent.trans (Ent.drop _ _) ?_)

/-- Snapshot -/
theorem r67_ok (p : Nat) (s : Or) (i : Int) : Spec Try.prog 67 [.pointer (some ⟨p, 0, none⟩), .int .i64 i] [p] [RF p s] fun F v Rs' => v = .tuple #[.int .i64 ((s.O i).getD 0), .bool (s.O i).isSome] ∧ Rs' = (p, RF p s) :: F := by
  refine spec_of Try.func67 rfl Try.ntmps67 rfl ?_
  intro w0 F
  refine RF.sc (p := p) (s := s) fun x hx => ?_
  have hcl : Ent (RFl p s x F) ((p, RF p s) :: F) := RF.close hx
  unfold RFl at hcl ⊢
  by_cases hi : 0 ≤ i ∧ i ≤ 16
  · obtain ⟨m, rfl⟩ : ∃ m : Nat, i = m := ⟨i.toNat, by omega⟩
    have hm : m < 17 := by omega
    repeat' (first | with_reducible refine sw_op ?_ | with_reducible refine sw_op_ ?_ | ((with_reducible refine sw_call (r94_ok m) ?_); rintro _ _ ⟨rfl, rfl⟩) | with_reducible refine sw_nil ?_ | with_reducible refine sq_then ?_ | with_reducible refine sc_seq ?_ | with_reducible refine sc_region ?_ | with_reducible refine sw_guard_skip ?_ | with_reducible refine sw_guard_skip_ ?_ | with_reducible refine sw_guard_run ?_ | with_reducible refine sc_cond_true ?_ | with_reducible refine sc_cond_false ?_ | with_reducible refine sc_ret ?_ | with_reducible refine sq_then_ret ?_ | with_reducible refine sc_skip ?_ | with_reducible refine sc_block ?_ | with_reducible refine sq_block ?_ | with_reducible refine sq_block_ret ?_ | with_reducible refine sc_exit ?_ | with_reducible refine sq_then_exit ?_ | with_reducible refine sq_block_exit ?_ | with_reducible refine sq_block_past ?_ | with_reducible refine sq_round_ret ?_ | with_reducible refine sq_round_exit ?_ | (with_reducible refine sc_cond (fun h => ?_) (fun h => ?_)) <;> (try (exfalso; first | contradiction | omega | exact h Iff.rfl)) | (with_reducible refine sw_guard_split (fun h => ?_) (fun h => ?_)) <;> (try (exfalso; first | contradiction | omega | exact h Iff.rfl)) | (with_reducible refine sw_pick (fun h => ?_) (fun h => ?_)) <;> (try (exfalso; first | contradiction | omega | exact h Iff.rfl)) | fail)
    with_reducible refine sw_idxA m ⟨rfl, by omega⟩ ?_
    repeat' (first | with_reducible refine sw_op ?_ | with_reducible refine sw_op_ ?_ | with_reducible refine sw_nil ?_ | with_reducible refine sq_then ?_ | with_reducible refine sc_seq ?_ | with_reducible refine sc_region ?_ | with_reducible refine sw_guard_skip ?_ | with_reducible refine sw_guard_skip_ ?_ | with_reducible refine sw_guard_run ?_ | with_reducible refine sc_cond_true ?_ | with_reducible refine sc_cond_false ?_ | with_reducible refine sc_ret ?_ | with_reducible refine sq_then_ret ?_ | with_reducible refine sc_skip ?_ | with_reducible refine sc_block ?_ | with_reducible refine sq_block ?_ | with_reducible refine sq_block_ret ?_ | with_reducible refine sc_exit ?_ | with_reducible refine sq_then_exit ?_ | with_reducible refine sq_block_exit ?_ | with_reducible refine sq_block_past ?_ | with_reducible refine sq_round_ret ?_ | with_reducible refine sq_round_exit ?_ | fail)
    with_reducible refine sw_loadAt (.bool (s.O m).isSome) (by rw [oR_is hm, hx.is' m hm]) ?_
    cases ho : s.O m with
    | none =>
      repeat' (first | with_reducible refine sw_op ?_ | with_reducible refine sw_op_ ?_ | with_reducible refine sw_nil ?_ | with_reducible refine sq_then ?_ | with_reducible refine sc_seq ?_ | with_reducible refine sc_region ?_ | with_reducible refine sw_guard_skip ?_ | with_reducible refine sw_guard_skip_ ?_ | with_reducible refine sw_guard_run ?_ | with_reducible refine sc_cond_true ?_ | with_reducible refine sc_cond_false ?_ | with_reducible refine sc_ret ?_ | with_reducible refine sq_then_ret ?_ | with_reducible refine sc_skip ?_ | with_reducible refine sc_block ?_ | with_reducible refine sq_block ?_ | with_reducible refine sq_block_ret ?_ | with_reducible refine sc_exit ?_ | with_reducible refine sq_then_exit ?_ | with_reducible refine sq_block_exit ?_ | with_reducible refine sq_block_past ?_ | with_reducible refine sq_round_ret ?_ | with_reducible refine sq_round_exit ?_ | (with_reducible refine sc_cond (fun h => ?_) (fun h => ?_)) <;> (try (exfalso; first | contradiction | omega | exact h Iff.rfl)) | (with_reducible refine sw_guard_split (fun h => ?_) (fun h => ?_)) <;> (try (exfalso; first | contradiction | omega | exact h Iff.rfl)) | (with_reducible refine sw_pick (fun h => ?_) (fun h => ?_)) <;> (try (exfalso; first | contradiction | omega | exact h Iff.rfl)) | fail)
      refine sq_ret2 Try.results67 ⟨_, ⟨rfl, rfl⟩, Ent.trans ?_ hcl⟩
      repeat' (first | with_reducible exact Ent.refl _ | with_reducible refine Ent.take_eq ?_ ?_ | rfl | with_reducible refine Ent.trans (Ent.drop _ _) ?_)
    | some t =>
      repeat' (first | with_reducible refine sw_op ?_ | with_reducible refine sw_op_ ?_ | with_reducible refine sw_nil ?_ | with_reducible refine sq_then ?_ | with_reducible refine sc_seq ?_ | with_reducible refine sc_region ?_ | with_reducible refine sw_guard_skip ?_ | with_reducible refine sw_guard_skip_ ?_ | with_reducible refine sw_guard_run ?_ | with_reducible refine sc_cond_true ?_ | with_reducible refine sc_cond_false ?_ | with_reducible refine sc_ret ?_ | with_reducible refine sq_then_ret ?_ | with_reducible refine sc_skip ?_ | with_reducible refine sc_block ?_ | with_reducible refine sq_block ?_ | with_reducible refine sq_block_ret ?_ | with_reducible refine sc_exit ?_ | with_reducible refine sq_then_exit ?_ | with_reducible refine sq_block_exit ?_ | with_reducible refine sq_block_past ?_ | with_reducible refine sq_round_ret ?_ | with_reducible refine sq_round_exit ?_ | (with_reducible refine sc_cond (fun h => ?_) (fun h => ?_)) <;> (try (exfalso; first | contradiction | omega | exact h Iff.rfl)) | (with_reducible refine sw_guard_split (fun h => ?_) (fun h => ?_)) <;> (try (exfalso; first | contradiction | omega | exact h Iff.rfl)) | (with_reducible refine sw_pick (fun h => ?_) (fun h => ?_)) <;> (try (exfalso; first | contradiction | omega | exact h Iff.rfl)) | fail)
      refine sw_idxA m ⟨rfl, by omega⟩ ?_
      refine sw_loadAt (.int .i64 (x.g m)) (oR_at hm) ?_
      rw [hx.at' m t ho]
      repeat' (first | with_reducible refine sw_op ?_ | with_reducible refine sw_op_ ?_ | with_reducible refine sw_nil ?_ | with_reducible refine sq_then ?_ | with_reducible refine sc_seq ?_ | with_reducible refine sc_region ?_ | with_reducible refine sw_guard_skip ?_ | with_reducible refine sw_guard_skip_ ?_ | with_reducible refine sw_guard_run ?_ | with_reducible refine sc_cond_true ?_ | with_reducible refine sc_cond_false ?_ | with_reducible refine sc_ret ?_ | with_reducible refine sq_then_ret ?_ | with_reducible refine sc_skip ?_ | with_reducible refine sc_block ?_ | with_reducible refine sq_block ?_ | with_reducible refine sq_block_ret ?_ | with_reducible refine sc_exit ?_ | with_reducible refine sq_then_exit ?_ | with_reducible refine sq_block_exit ?_ | with_reducible refine sq_block_past ?_ | with_reducible refine sq_round_ret ?_ | with_reducible refine sq_round_exit ?_ | fail)
      refine sq_ret2 Try.results67 ⟨_, ⟨rfl, rfl⟩, Ent.trans ?_ hcl⟩
      repeat' (first | with_reducible exact Ent.refl _ | with_reducible refine Ent.take_eq ?_ ?_ | rfl | with_reducible refine Ent.trans (Ent.drop _ _) ?_)
  · have hno : s.O i = none := by
      cases h : s.O i with
      | none => rfl
      | some t => exact absurd (hx.wf.od i t h) hi
    repeat' (first | with_reducible refine sw_op ?_ | with_reducible refine sw_op_ ?_ | ((with_reducible refine sw_call (r94_ok i) ?_); rintro _ _ ⟨rfl, rfl⟩) | with_reducible refine sw_nil ?_ | with_reducible refine sq_then ?_ | with_reducible refine sc_seq ?_ | with_reducible refine sc_region ?_ | with_reducible refine sw_guard_skip ?_ | with_reducible refine sw_guard_skip_ ?_ | with_reducible refine sw_guard_run ?_ | with_reducible refine sc_cond_true ?_ | with_reducible refine sc_cond_false ?_ | with_reducible refine sc_ret ?_ | with_reducible refine sq_then_ret ?_ | with_reducible refine sc_skip ?_ | with_reducible refine sc_block ?_ | with_reducible refine sq_block ?_ | with_reducible refine sq_block_ret ?_ | with_reducible refine sc_exit ?_ | with_reducible refine sq_then_exit ?_ | with_reducible refine sq_block_exit ?_ | with_reducible refine sq_block_past ?_ | with_reducible refine sq_round_ret ?_ | with_reducible refine sq_round_exit ?_ | (with_reducible refine sc_cond (fun h => ?_) (fun h => ?_)) <;> (try (exfalso; first | contradiction | omega | exact h Iff.rfl)) | (with_reducible refine sw_guard_split (fun h => ?_) (fun h => ?_)) <;> (try (exfalso; first | contradiction | omega | exact h Iff.rfl)) | (with_reducible refine sw_pick (fun h => ?_) (fun h => ?_)) <;> (try (exfalso; first | contradiction | omega | exact h Iff.rfl)) | fail)
    refine sq_ret2 Try.results67 ⟨_, ⟨by rw [hno]; rfl, rfl⟩, Ent.trans ?_ hcl⟩
    repeat' (first | with_reducible exact Ent.refl _ | with_reducible refine Ent.take_eq ?_ ?_ | rfl | with_reducible refine Ent.trans (Ent.drop _ _) ?_)

theorem o_none {s : Or} (hw : s.Wf) {i : Int} (h : ¬ (0 ≤ i ∧ i ≤ 16)) : s.O i = none := by
  cases ho : s.O i with
  | none => rfl
  | some t => exact absurd (hw.od i t ho) h

/-- Close -/
theorem r66_bad (p : Nat) (s : Or) (i : Int) (hi : ¬ (0 ≤ i ∧ i ≤ 16)) : Spec Try.prog 66 [.pointer (some ⟨p, 0, none⟩), .int .i64 i] [p] [RF p s] fun F v Rs' => v = .int .i64 1 ∧ Rs' = (p, RF p s) :: F := by
  refine spec_of Try.func66 rfl Try.ntmps66 rfl ?_
  intro w0 F
  repeat' (first | with_reducible refine sw_op ?_ | with_reducible refine sw_op_ ?_ | ((with_reducible refine sw_call (r94_ok i) ?_); rintro _ _ ⟨rfl, rfl⟩) | with_reducible refine sw_nil ?_ | with_reducible refine sq_then ?_ | with_reducible refine sc_seq ?_ | with_reducible refine sc_region ?_ | with_reducible refine sw_guard_skip ?_ | with_reducible refine sw_guard_skip_ ?_ | with_reducible refine sw_guard_run ?_ | with_reducible refine sc_cond_true ?_ | with_reducible refine sc_cond_false ?_ | with_reducible refine sc_ret ?_ | with_reducible refine sq_then_ret ?_ | with_reducible refine sc_skip ?_ | with_reducible refine sc_block ?_ | with_reducible refine sq_block ?_ | with_reducible refine sq_block_ret ?_ | with_reducible refine sc_exit ?_ | with_reducible refine sq_then_exit ?_ | with_reducible refine sq_block_exit ?_ | with_reducible refine sq_block_past ?_ | with_reducible refine sq_round_ret ?_ | with_reducible refine sq_round_exit ?_ | (with_reducible refine sc_cond (fun h => ?_) (fun h => ?_)) <;> (try (exfalso; first | contradiction | omega | exact h Iff.rfl)) | (with_reducible refine sw_guard_split (fun h => ?_) (fun h => ?_)) <;> (try (exfalso; first | contradiction | omega | exact h Iff.rfl)) | (with_reducible refine sw_pick (fun h => ?_) (fun h => ?_)) <;> (try (exfalso; first | contradiction | omega | exact h Iff.rfl)) | fail)
  exact sq_ret1 Try.results66 ⟨_, ⟨rfl, rfl⟩, Ent.refl _⟩
theorem r66_ok (p : Nat) (s : Or) (m : Nat) (hm : m < 17) : Spec Try.prog 66 [.pointer (some ⟨p, 0, none⟩), .int .i64 m] [p] [RF p s] fun F v Rs' => (s.O m = none ∧ v = .int .i64 141 ∧ Rs' = (p, RF p s) :: F) ∨ ((s.O m).isSome = true ∧ v = .int .i64 0 ∧ Rs' = (p, RF p (s.shut m)) :: F) := by
  have hi : 0 ≤ (m : Int) ∧ (m : Int) ≤ 16 := by omega
  refine spec_of Try.func66 rfl Try.ntmps66 rfl ?_
  intro w0 F
  refine RF.sc (p := p) (s := s) fun x hx => ?_
  have hcl : Ent (RFl p s x F) ((p, RF p s) :: F) := RF.close hx
  unfold RFl at hcl ⊢
  repeat' (first | with_reducible refine sw_op ?_ | with_reducible refine sw_op_ ?_ | ((with_reducible refine sw_call (r94_ok m) ?_); rintro _ _ ⟨rfl, rfl⟩) | with_reducible refine sw_nil ?_ | with_reducible refine sq_then ?_ | with_reducible refine sc_seq ?_ | with_reducible refine sc_region ?_ | with_reducible refine sw_guard_skip ?_ | with_reducible refine sw_guard_skip_ ?_ | with_reducible refine sw_guard_run ?_ | with_reducible refine sc_cond_true ?_ | with_reducible refine sc_cond_false ?_ | with_reducible refine sc_ret ?_ | with_reducible refine sq_then_ret ?_ | with_reducible refine sc_skip ?_ | with_reducible refine sc_block ?_ | with_reducible refine sq_block ?_ | with_reducible refine sq_block_ret ?_ | with_reducible refine sc_exit ?_ | with_reducible refine sq_then_exit ?_ | with_reducible refine sq_block_exit ?_ | with_reducible refine sq_block_past ?_ | with_reducible refine sq_round_ret ?_ | with_reducible refine sq_round_exit ?_ | (with_reducible refine sc_cond (fun h => ?_) (fun h => ?_)) <;> (try (exfalso; first | contradiction | omega | exact h Iff.rfl)) | (with_reducible refine sw_guard_split (fun h => ?_) (fun h => ?_)) <;> (try (exfalso; first | contradiction | omega | exact h Iff.rfl)) | (with_reducible refine sw_pick (fun h => ?_) (fun h => ?_)) <;> (try (exfalso; first | contradiction | omega | exact h Iff.rfl)) | fail)
  refine sw_idxA m ⟨rfl, by omega⟩ ?_
  refine sw_loadAt (.bool (s.O m).isSome) (by rw [oR_is hm, hx.is' m hm]) ?_
  cases ho : s.O m with
  | none =>
    repeat' (first | with_reducible refine sw_op ?_ | with_reducible refine sw_op_ ?_ | with_reducible refine sw_nil ?_ | with_reducible refine sq_then ?_ | with_reducible refine sc_seq ?_ | with_reducible refine sc_region ?_ | with_reducible refine sw_guard_skip ?_ | with_reducible refine sw_guard_skip_ ?_ | with_reducible refine sw_guard_run ?_ | with_reducible refine sc_cond_true ?_ | with_reducible refine sc_cond_false ?_ | with_reducible refine sc_ret ?_ | with_reducible refine sq_then_ret ?_ | with_reducible refine sc_skip ?_ | with_reducible refine sc_block ?_ | with_reducible refine sq_block ?_ | with_reducible refine sq_block_ret ?_ | with_reducible refine sc_exit ?_ | with_reducible refine sq_then_exit ?_ | with_reducible refine sq_block_exit ?_ | with_reducible refine sq_block_past ?_ | with_reducible refine sq_round_ret ?_ | with_reducible refine sq_round_exit ?_ | (with_reducible refine sc_cond (fun h => ?_) (fun h => ?_)) <;> (try (exfalso; first | contradiction | omega | exact h Iff.rfl)) | (with_reducible refine sw_guard_split (fun h => ?_) (fun h => ?_)) <;> (try (exfalso; first | contradiction | omega | exact h Iff.rfl)) | (with_reducible refine sw_pick (fun h => ?_) (fun h => ?_)) <;> (try (exfalso; first | contradiction | omega | exact h Iff.rfl)) | fail)
    refine sq_ret1 Try.results66 ⟨_, .inl ⟨rfl, rfl, rfl⟩, Ent.trans ?_ hcl⟩
    repeat' (first | with_reducible exact Ent.refl _ | with_reducible refine Ent.take_eq ?_ ?_ | rfl | with_reducible refine Ent.trans (Ent.drop _ _) ?_)
  | some t =>
    repeat' (first | with_reducible refine sw_op ?_ | with_reducible refine sw_op_ ?_ | with_reducible refine sw_nil ?_ | with_reducible refine sq_then ?_ | with_reducible refine sc_seq ?_ | with_reducible refine sc_region ?_ | with_reducible refine sw_guard_skip ?_ | with_reducible refine sw_guard_skip_ ?_ | with_reducible refine sw_guard_run ?_ | with_reducible refine sc_cond_true ?_ | with_reducible refine sc_cond_false ?_ | with_reducible refine sc_ret ?_ | with_reducible refine sq_then_ret ?_ | with_reducible refine sc_skip ?_ | with_reducible refine sc_block ?_ | with_reducible refine sq_block ?_ | with_reducible refine sq_block_ret ?_ | with_reducible refine sc_exit ?_ | with_reducible refine sq_then_exit ?_ | with_reducible refine sq_block_exit ?_ | with_reducible refine sq_block_past ?_ | with_reducible refine sq_round_ret ?_ | with_reducible refine sq_round_exit ?_ | (with_reducible refine sc_cond (fun h => ?_) (fun h => ?_)) <;> (try (exfalso; first | contradiction | omega | exact h Iff.rfl)) | (with_reducible refine sw_guard_split (fun h => ?_) (fun h => ?_)) <;> (try (exfalso; first | contradiction | omega | exact h Iff.rfl)) | (with_reducible refine sw_pick (fun h => ?_) (fun h => ?_)) <;> (try (exfalso; first | contradiction | omega | exact h Iff.rfl)) | fail)
    refine sw_idxA m ⟨rfl, by omega⟩ ?_
    refine sw_storeAt (by rw [oR_len]; omega) ?_
    rw [oR_setis hm]
    repeat' (first | with_reducible refine sw_op ?_ | with_reducible refine sw_op_ ?_ | with_reducible refine sw_nil ?_ | with_reducible refine sq_then ?_ | with_reducible refine sc_seq ?_ | with_reducible refine sc_region ?_ | with_reducible refine sw_guard_skip ?_ | with_reducible refine sw_guard_skip_ ?_ | with_reducible refine sw_guard_run ?_ | with_reducible refine sc_cond_true ?_ | with_reducible refine sc_cond_false ?_ | with_reducible refine sc_ret ?_ | with_reducible refine sq_then_ret ?_ | with_reducible refine sc_skip ?_ | with_reducible refine sc_block ?_ | with_reducible refine sq_block ?_ | with_reducible refine sq_block_ret ?_ | with_reducible refine sc_exit ?_ | with_reducible refine sq_then_exit ?_ | with_reducible refine sq_block_exit ?_ | with_reducible refine sq_block_past ?_ | with_reducible refine sq_round_ret ?_ | with_reducible refine sq_round_exit ?_ | fail)
    refine sq_ret1 Try.results66 ⟨_, .inr ⟨rfl, rfl, rfl⟩, Ent.trans (B := RFl p (s.shut m) { x with f := fun j => if j = m then .bool false else x.f j } F) ?_ (RF.close ?_)⟩
    · unfold RFl
      repeat' (first | with_reducible exact Ent.refl _ | with_reducible refine Ent.take_eq ?_ ?_ | rfl | with_reducible refine Ent.trans (Ent.drop _ _) ?_)
    · refine ⟨Or.shut_wf hx.wf m, ⟨hx.pend.lt, hx.pend.mem⟩, hx.nil, fun i hi => ?_, fun i t h => ?_⟩
      · show (if i = m then Value.bool false else x.f i) = .bool ((if (i : Int) = (m : Int) then none else s.O i : Option Int)).isSome
        by_cases h : i = m
        · rw [if_pos h, if_pos (by omega)]; rfl
        · rw [if_neg h, if_neg (by omega)]; exact hx.is' i hi
      · have h : (if (i : Int) = (m : Int) then none else s.O i : Option Int) = some t := h
        split at h
        · cases h
        · exact hx.at' i t h

theorem r27_none (p : Nat) (L : Int) (f : Nat → Value) (g : Nat → Int) : Spec Try.prog 27 [.pointer (some ⟨p, 0, none⟩)] [p] [pts p (orefO L (.slice none 0 0) f g)] fun F v Rs' => v = .int .i64 L ∧ Rs' = (p, pts p (orefO L (.slice none 0 0) f g)) :: F := by
  refine spec_of Try.func27 rfl Try.ntmps27 rfl ?_
  intro w0 F
  repeat' (first | with_reducible refine sw_i64 (by omega) ?_ | with_reducible refine sw_op ?_ | with_reducible refine sw_op_ ?_ | with_reducible refine sw_nil ?_ | with_reducible refine sq_then ?_ | with_reducible refine sc_seq ?_ | with_reducible refine sc_region ?_ | with_reducible refine sw_guard_skip ?_ | with_reducible refine sw_guard_skip_ ?_ | with_reducible refine sw_guard_run ?_ | with_reducible refine sc_cond_true ?_ | with_reducible refine sc_cond_false ?_ | with_reducible refine sc_ret ?_ | with_reducible refine sq_then_ret ?_ | with_reducible refine sc_skip ?_ | with_reducible refine sc_block ?_ | with_reducible refine sq_block ?_ | with_reducible refine sq_block_ret ?_ | with_reducible refine sc_exit ?_ | with_reducible refine sq_then_exit ?_ | with_reducible refine sq_block_exit ?_ | with_reducible refine sq_block_past ?_ | with_reducible refine sq_round_ret ?_ | with_reducible refine sq_round_exit ?_ | (with_reducible refine sc_cond (fun h => ?_) (fun h => ?_)) <;> (try (exfalso; first | contradiction | omega | exact h Iff.rfl)) | fail)
  exact sq_ret1 Try.results27 ⟨_, ⟨rfl, rfl⟩, Ent.refl _⟩
theorem r27_some (p b c : Nat) (L z : Int) (f : Nat → Value) (g : Nat → Int) (P : List Int) (r : List Value) (hz : (P = [] ∧ z = L) ∨ ∃ R, P = (z + 1) :: R) (h0 : 0 ≤ z ∧ z ≤ 1099511627776) : Spec Try.prog 27 [.pointer (some ⟨p, 0, none⟩)] [p, b] [pts p (orefO L (.slice (some ⟨b, 0, none⟩) P.length c) f g), pts b (.cells (P.map (Value.int .i64) ++ r).toArray 2 (0, 0))]
    fun F v Rs' => v = .int .i64 z ∧ Rs' = (p, pts p (orefO L (.slice (some ⟨b, 0, none⟩) P.length c) f g)) :: (b, pts b (.cells (P.map (Value.int .i64) ++ r).toArray 2 (0, 0))) :: F := by
  refine spec_of Try.func27 rfl Try.ntmps27 rfl ?_
  intro w0 F
  rcases hz with ⟨rfl, rfl⟩ | ⟨R, rfl⟩
  · repeat' (first | with_reducible refine sw_i64 (by omega) ?_ | with_reducible refine sw_op ?_ | with_reducible refine sw_op_ ?_ | with_reducible refine sw_nil ?_ | with_reducible refine sq_then ?_ | with_reducible refine sc_seq ?_ | with_reducible refine sc_region ?_ | with_reducible refine sw_guard_skip ?_ | with_reducible refine sw_guard_skip_ ?_ | with_reducible refine sw_guard_run ?_ | with_reducible refine sc_cond_true ?_ | with_reducible refine sc_cond_false ?_ | with_reducible refine sc_ret ?_ | with_reducible refine sq_then_ret ?_ | with_reducible refine sc_skip ?_ | with_reducible refine sc_block ?_ | with_reducible refine sq_block ?_ | with_reducible refine sq_block_ret ?_ | with_reducible refine sc_exit ?_ | with_reducible refine sq_then_exit ?_ | with_reducible refine sq_block_exit ?_ | with_reducible refine sq_block_past ?_ | with_reducible refine sq_round_ret ?_ | with_reducible refine sq_round_exit ?_ | (with_reducible refine sc_cond (fun h => ?_) (fun h => ?_)) <;> (try (exfalso; first | contradiction | omega | exact h Iff.rfl)) | fail)
    exact sq_ret1 Try.results27 ⟨_, ⟨rfl, rfl⟩, Ent.refl _⟩
  · have hpos : 0 < ((z + 1) :: R).length := by simp
    repeat' (first | with_reducible refine sw_op ?_ | with_reducible refine sw_op_ ?_ | with_reducible refine sw_nil ?_ | with_reducible refine sq_then ?_ | with_reducible refine sc_seq ?_ | with_reducible refine sc_region ?_ | with_reducible refine sw_guard_skip ?_ | with_reducible refine sw_guard_skip_ ?_ | with_reducible refine sw_guard_run ?_ | with_reducible refine sc_cond_true ?_ | with_reducible refine sc_cond_false ?_ | with_reducible refine sc_ret ?_ | with_reducible refine sq_then_ret ?_ | with_reducible refine sc_skip ?_ | with_reducible refine sc_block ?_ | with_reducible refine sq_block ?_ | with_reducible refine sq_block_ret ?_ | with_reducible refine sc_exit ?_ | with_reducible refine sq_then_exit ?_ | with_reducible refine sq_block_exit ?_ | with_reducible refine sq_block_past ?_ | with_reducible refine sq_round_ret ?_ | with_reducible refine sq_round_exit ?_ | (with_reducible refine sc_cond (fun h => ?_) (fun h => ?_)) <;> (try (exfalso; first | contradiction | omega | exact h Iff.rfl)) | fail)
    refine sw_idx 0 (by omega) ?_
    refine sw_loadAt (.int .i64 (z + 1)) rfl ?_
    repeat' (first | with_reducible refine sw_i64 (by omega) ?_ | with_reducible refine sw_op ?_ | with_reducible refine sw_op_ ?_ | with_reducible refine sw_nil ?_ | with_reducible refine sq_then ?_ | with_reducible refine sc_seq ?_ | with_reducible refine sc_region ?_ | with_reducible refine sw_guard_skip ?_ | with_reducible refine sw_guard_skip_ ?_ | with_reducible refine sw_guard_run ?_ | with_reducible refine sc_cond_true ?_ | with_reducible refine sc_cond_false ?_ | with_reducible refine sc_ret ?_ | with_reducible refine sq_then_ret ?_ | with_reducible refine sc_skip ?_ | with_reducible refine sc_block ?_ | with_reducible refine sq_block ?_ | with_reducible refine sq_block_ret ?_ | with_reducible refine sc_exit ?_ | with_reducible refine sq_then_exit ?_ | with_reducible refine sq_block_exit ?_ | with_reducible refine sq_block_past ?_ | with_reducible refine sq_round_ret ?_ | with_reducible refine sq_round_exit ?_ | fail)
    exact sq_ret1 Try.results27 ⟨_, ⟨by congr 1; omega, rfl⟩, by repeat' (first | with_reducible exact Ent.refl _ | with_reducible refine Ent.take_eq ?_ ?_ | rfl | with_reducible refine Ent.trans (Ent.drop _ _) ?_)⟩

/-- Open -/
theorem r65_bad (p : Nat) (s : Or) (i : Int) (hi : ¬ (0 ≤ i ∧ i ≤ 16)) : Spec Try.prog 65 [.pointer (some ⟨p, 0, none⟩), .int .i64 i] [p] [RF p s] fun F v Rs' => v = .tuple #[.int .i64 0, .int .i64 1] ∧ Rs' = (p, RF p s) :: F := by
  refine spec_of Try.func65 rfl Try.ntmps65 rfl ?_
  intro w0 F
  repeat' (first | with_reducible refine sw_op ?_ | with_reducible refine sw_op_ ?_ | ((with_reducible refine sw_call (r94_ok i) ?_); rintro _ _ ⟨rfl, rfl⟩) | with_reducible refine sw_nil ?_ | with_reducible refine sq_then ?_ | with_reducible refine sc_seq ?_ | with_reducible refine sc_region ?_ | with_reducible refine sw_guard_skip ?_ | with_reducible refine sw_guard_skip_ ?_ | with_reducible refine sw_guard_run ?_ | with_reducible refine sc_cond_true ?_ | with_reducible refine sc_cond_false ?_ | with_reducible refine sc_ret ?_ | with_reducible refine sq_then_ret ?_ | with_reducible refine sc_skip ?_ | with_reducible refine sc_block ?_ | with_reducible refine sq_block ?_ | with_reducible refine sq_block_ret ?_ | with_reducible refine sc_exit ?_ | with_reducible refine sq_then_exit ?_ | with_reducible refine sq_block_exit ?_ | with_reducible refine sq_block_past ?_ | with_reducible refine sq_round_ret ?_ | with_reducible refine sq_round_exit ?_ | (with_reducible refine sc_cond (fun h => ?_) (fun h => ?_)) <;> (try (exfalso; first | contradiction | omega | exact h Iff.rfl)) | (with_reducible refine sw_guard_split (fun h => ?_) (fun h => ?_)) <;> (try (exfalso; first | contradiction | omega | exact h Iff.rfl)) | (with_reducible refine sw_pick (fun h => ?_) (fun h => ?_)) <;> (try (exfalso; first | contradiction | omega | exact h Iff.rfl)) | fail)
  exact sq_ret2 Try.results65 ⟨_, ⟨rfl, rfl⟩, Ent.refl _⟩
theorem opened_ok {s : Or} {x : OX} {m : Nat} (hx : x.Ok s) (hm : m < 17) : ({ x with f := fun j => if j = m then .bool true else x.f j, g := fun j => if j = m then s.pub else x.g j } : OX).Ok (s.opened m) := by
  refine ⟨Or.opened_wf hx.wf (by omega) (by omega), ⟨hx.pend.lt, hx.pend.mem⟩, hx.nil, fun i hi => ?_, fun i t h => ?_⟩
  · show (if i = m then Value.bool true else x.f i) = .bool ((if (i : Int) = (m : Int) then some s.pub else s.O i : Option Int)).isSome
    by_cases h : i = m
    · rw [if_pos h, if_pos (by omega)]; rfl
    · rw [if_neg h, if_neg (by omega)]; exact hx.is' i hi
  · have h : (if (i : Int) = (m : Int) then some s.pub else s.O i : Option Int) = some t := h
    show (if i = m then s.pub else x.g i) = t
    split at h
    · cases h; rw [if_pos (by omega)]
    · rw [if_neg (by omega)]; exact hx.at' i t h
theorem oR_gset {L : Int} {pv : Value} {f : Nat → Value} {g : Nat → Int} {i : Nat} {v : Int} (h : i < 17) : (oR L pv f (fun j => .int .i64 (g j))).set (19 + i) (.int .i64 v) = oR L pv f (fun j => .int .i64 ((fun j => if j = i then v else g j) j)) := by
  rw [oR_setat h]
  congr 3
  funext j
  by_cases h : j = i
  · rw [if_pos h]; simp [h]
  · rw [if_neg h]; simp [h]
theorem r65_ok (p : Nat) (s : Or) (m : Nat) (hm : m < 17) : Spec Try.prog 65 [.pointer (some ⟨p, 0, none⟩), .int .i64 m] [p] [RF p s] fun F v Rs' => ((s.O m).isSome = true ∧ v = .tuple #[.int .i64 0, .int .i64 140] ∧ Rs' = (p, RF p s) :: F) ∨ (s.O m = none ∧ v = .tuple #[.int .i64 s.pub, .int .i64 0] ∧ Rs' = (p, RF p (s.opened m)) :: F) := by
  have hi : 0 ≤ (m : Int) ∧ (m : Int) ≤ 16 := by omega
  refine spec_of Try.func65 rfl Try.ntmps65 rfl ?_
  intro w0 F
  refine RF.sc (p := p) (s := s) fun x hx => ?_
  have hcl : Ent (RFl p s x F) ((p, RF p s) :: F) := RF.close hx
  have hcl2 := RF.close (p := p) (F := F) (opened_ok hx hm)
  have hpb := PendL.pub hx.wf hx.pend
  have hp0 := hx.wf.p0
  have hlm := hx.wf.lm
  have hpl := hx.wf.pl
  unfold RFl at hcl hcl2 ⊢
  repeat' (first | with_reducible refine sw_op ?_ | with_reducible refine sw_op_ ?_ | ((with_reducible refine sw_call (r94_ok m) ?_); rintro _ _ ⟨rfl, rfl⟩) | with_reducible refine sw_nil ?_ | with_reducible refine sq_then ?_ | with_reducible refine sc_seq ?_ | with_reducible refine sc_region ?_ | with_reducible refine sw_guard_skip ?_ | with_reducible refine sw_guard_skip_ ?_ | with_reducible refine sw_guard_run ?_ | with_reducible refine sc_cond_true ?_ | with_reducible refine sc_cond_false ?_ | with_reducible refine sc_ret ?_ | with_reducible refine sq_then_ret ?_ | with_reducible refine sc_skip ?_ | with_reducible refine sc_block ?_ | with_reducible refine sq_block ?_ | with_reducible refine sq_block_ret ?_ | with_reducible refine sc_exit ?_ | with_reducible refine sq_then_exit ?_ | with_reducible refine sq_block_exit ?_ | with_reducible refine sq_block_past ?_ | with_reducible refine sq_round_ret ?_ | with_reducible refine sq_round_exit ?_ | (with_reducible refine sc_cond (fun h => ?_) (fun h => ?_)) <;> (try (exfalso; first | contradiction | omega | exact h Iff.rfl)) | (with_reducible refine sw_guard_split (fun h => ?_) (fun h => ?_)) <;> (try (exfalso; first | contradiction | omega | exact h Iff.rfl)) | (with_reducible refine sw_pick (fun h => ?_) (fun h => ?_)) <;> (try (exfalso; first | contradiction | omega | exact h Iff.rfl)) | fail)
  refine sw_idxA m ⟨rfl, by omega⟩ ?_
  refine sw_loadAt (.bool (s.O m).isSome) (by rw [oR_is hm, hx.is' m hm]) ?_
  cases ho : s.O m with
  | some t =>
    repeat' (first | with_reducible refine sw_op ?_ | with_reducible refine sw_op_ ?_ | with_reducible refine sw_nil ?_ | with_reducible refine sq_then ?_ | with_reducible refine sc_seq ?_ | with_reducible refine sc_region ?_ | with_reducible refine sw_guard_skip ?_ | with_reducible refine sw_guard_skip_ ?_ | with_reducible refine sw_guard_run ?_ | with_reducible refine sc_cond_true ?_ | with_reducible refine sc_cond_false ?_ | with_reducible refine sc_ret ?_ | with_reducible refine sq_then_ret ?_ | with_reducible refine sc_skip ?_ | with_reducible refine sc_block ?_ | with_reducible refine sq_block ?_ | with_reducible refine sq_block_ret ?_ | with_reducible refine sc_exit ?_ | with_reducible refine sq_then_exit ?_ | with_reducible refine sq_block_exit ?_ | with_reducible refine sq_block_past ?_ | with_reducible refine sq_round_ret ?_ | with_reducible refine sq_round_exit ?_ | (with_reducible refine sc_cond (fun h => ?_) (fun h => ?_)) <;> (try (exfalso; first | contradiction | omega | exact h Iff.rfl)) | (with_reducible refine sw_guard_split (fun h => ?_) (fun h => ?_)) <;> (try (exfalso; first | contradiction | omega | exact h Iff.rfl)) | (with_reducible refine sw_pick (fun h => ?_) (fun h => ?_)) <;> (try (exfalso; first | contradiction | omega | exact h Iff.rfl)) | fail)
    refine sq_ret2 Try.results65 ⟨_, .inl ⟨rfl, rfl, rfl⟩, Ent.trans ?_ hcl⟩
    repeat' (first | with_reducible exact Ent.refl _ | with_reducible refine Ent.take_eq ?_ ?_ | rfl | with_reducible refine Ent.trans (Ent.drop _ _) ?_)
  | none =>
    repeat' (first | with_reducible refine sw_op ?_ | with_reducible refine sw_op_ ?_ | with_reducible refine sw_nil ?_ | with_reducible refine sq_then ?_ | with_reducible refine sc_seq ?_ | with_reducible refine sc_region ?_ | with_reducible refine sw_guard_skip ?_ | with_reducible refine sw_guard_skip_ ?_ | with_reducible refine sw_guard_run ?_ | with_reducible refine sc_cond_true ?_ | with_reducible refine sc_cond_false ?_ | with_reducible refine sc_ret ?_ | with_reducible refine sq_then_ret ?_ | with_reducible refine sc_skip ?_ | with_reducible refine sc_block ?_ | with_reducible refine sq_block ?_ | with_reducible refine sq_block_ret ?_ | with_reducible refine sc_exit ?_ | with_reducible refine sq_then_exit ?_ | with_reducible refine sq_block_exit ?_ | with_reducible refine sq_block_past ?_ | with_reducible refine sq_round_ret ?_ | with_reducible refine sq_round_exit ?_ | (with_reducible refine sc_cond (fun h => ?_) (fun h => ?_)) <;> (try (exfalso; first | contradiction | omega | exact h Iff.rfl)) | (with_reducible refine sw_guard_split (fun h => ?_) (fun h => ?_)) <;> (try (exfalso; first | contradiction | omega | exact h Iff.rfl)) | (with_reducible refine sw_pick (fun h => ?_) (fun h => ?_)) <;> (try (exfalso; first | contradiction | omega | exact h Iff.rfl)) | fail)
    refine sw_idxA m ⟨rfl, by omega⟩ ?_
    refine sw_storeAt (by rw [oR_len]; omega) ?_
    rw [oR_setis hm]
    repeat' (first | with_reducible refine sw_op ?_ | with_reducible refine sw_op_ ?_ | with_reducible refine sw_nil ?_ | with_reducible refine sq_then ?_ | with_reducible refine sc_seq ?_ | with_reducible refine sc_region ?_ | with_reducible refine sw_guard_skip ?_ | with_reducible refine sw_guard_skip_ ?_ | with_reducible refine sw_guard_run ?_ | with_reducible refine sc_cond_true ?_ | with_reducible refine sc_cond_false ?_ | with_reducible refine sc_ret ?_ | with_reducible refine sq_then_ret ?_ | with_reducible refine sc_skip ?_ | with_reducible refine sc_block ?_ | with_reducible refine sq_block ?_ | with_reducible refine sq_block_ret ?_ | with_reducible refine sc_exit ?_ | with_reducible refine sq_then_exit ?_ | with_reducible refine sq_block_exit ?_ | with_reducible refine sq_block_past ?_ | with_reducible refine sq_round_ret ?_ | with_reducible refine sq_round_exit ?_ | fail)
    have hnil := hx.nil
    obtain ⟨f, g, L, y⟩ := x
    dsimp only at hpb hnil hcl2 ⊢
    cases y with
    | none =>
      have hnil : L = [] := hnil rfl
      subst hnil
      have hpub : s.pub = s.last := by
        rcases hpb with h | ⟨R, h⟩
        · exact h.2
        · cases h
      dsimp only [jV, jR] at hcl2 ⊢
      refine sc_drawG (m := 8) ([]) (by kernel_rfl) rfl ?_
      all_goals (first | refine sg_take 0 (by repeat' (first | with_reducible exact calm_post | with_reducible refine Calm.then ?_ | with_reducible refine Calm.block ?_ | with_reducible refine Calm.round ?_ | with_reducible refine Calm.mark ?_)) rfl (by kernel_rfl) (by kernel_rfl) (by kernel_rfl) ?_)
      all_goals (first | refine sg_take 1 (by repeat' (first | with_reducible exact calm_post | with_reducible refine Calm.then ?_ | with_reducible refine Calm.block ?_ | with_reducible refine Calm.round ?_ | with_reducible refine Calm.mark ?_)) rfl (by kernel_rfl) (by kernel_rfl) (by kernel_rfl) ?_)
      all_goals (first | refine sg_take 2 (by repeat' (first | with_reducible exact calm_post | with_reducible refine Calm.then ?_ | with_reducible refine Calm.block ?_ | with_reducible refine Calm.round ?_ | with_reducible refine Calm.mark ?_)) rfl (by kernel_rfl) (by kernel_rfl) (by kernel_rfl) ?_)
      all_goals (first | refine sg_take 4 (by repeat' (first | with_reducible exact calm_post | with_reducible refine Calm.then ?_ | with_reducible refine Calm.block ?_ | with_reducible refine Calm.round ?_ | with_reducible refine Calm.mark ?_)) rfl (by kernel_rfl) (by kernel_rfl) (by kernel_rfl) ?_)
      all_goals (first | refine sg_take 5 (by repeat' (first | with_reducible exact calm_post | with_reducible refine Calm.then ?_ | with_reducible refine Calm.block ?_ | with_reducible refine Calm.round ?_ | with_reducible refine Calm.mark ?_)) rfl (by kernel_rfl) (by kernel_rfl) (by kernel_rfl) ?_)
      all_goals (refine sg_one 3 rfl (by kernel_rfl) rfl ?_)
      all_goals (repeat' (first | with_reducible refine sw_op ?_ | with_reducible refine sw_op_ ?_ | ((with_reducible refine sw_call (r27_none p s.last _ g) ?_); rintro _ _ ⟨rfl, rfl⟩) | with_reducible refine sw_storeAt (by rw [oR_len]; omega) ?_ | with_reducible refine sg_back ?_ | with_reducible refine sw_nil ?_ | with_reducible refine sq_then ?_ | with_reducible refine sc_seq ?_ | with_reducible refine sc_region ?_ | with_reducible refine sw_guard_skip ?_ | with_reducible refine sw_guard_skip_ ?_ | with_reducible refine sw_guard_run ?_ | with_reducible refine sc_cond_true ?_ | with_reducible refine sc_cond_false ?_ | with_reducible refine sc_ret ?_ | with_reducible refine sq_then_ret ?_ | with_reducible refine sc_skip ?_ | with_reducible refine sc_block ?_ | with_reducible refine sq_block ?_ | with_reducible refine sq_block_ret ?_ | with_reducible refine sc_exit ?_ | with_reducible refine sq_then_exit ?_ | with_reducible refine sq_block_exit ?_ | with_reducible refine sq_block_past ?_ | with_reducible refine sq_round_ret ?_ | with_reducible refine sq_round_exit ?_ | fail))
      all_goals (first | refine sg_take 6 (by repeat' (first | with_reducible exact calm_post | with_reducible refine Calm.then ?_ | with_reducible refine Calm.block ?_ | with_reducible refine Calm.round ?_ | with_reducible refine Calm.mark ?_)) rfl (by kernel_rfl) (by kernel_rfl) (by kernel_rfl) (h := runop_idxA m ⟨rfl, by omega⟩) ?_ | refine sg_take 6 (by repeat' (first | with_reducible exact calm_post | with_reducible refine Calm.then ?_ | with_reducible refine Calm.block ?_ | with_reducible refine Calm.round ?_ | with_reducible refine Calm.mark ?_)) rfl (by kernel_rfl) (by kernel_rfl) (by kernel_rfl) ?_)
      all_goals (refine sg_one 7 rfl (by kernel_rfl) rfl ?_)
      all_goals (repeat' (first | with_reducible refine sw_op ?_ | with_reducible refine sw_op_ ?_ | ((with_reducible refine sw_call (r27_none p s.last _ g) ?_); rintro _ _ ⟨rfl, rfl⟩) | with_reducible refine sw_storeAt (by rw [oR_len]; omega) ?_ | with_reducible refine sg_back ?_ | with_reducible refine sw_nil ?_ | with_reducible refine sq_then ?_ | with_reducible refine sc_seq ?_ | with_reducible refine sc_region ?_ | with_reducible refine sw_guard_skip ?_ | with_reducible refine sw_guard_skip_ ?_ | with_reducible refine sw_guard_run ?_ | with_reducible refine sc_cond_true ?_ | with_reducible refine sc_cond_false ?_ | with_reducible refine sc_ret ?_ | with_reducible refine sq_then_ret ?_ | with_reducible refine sc_skip ?_ | with_reducible refine sc_block ?_ | with_reducible refine sq_block ?_ | with_reducible refine sq_block_ret ?_ | with_reducible refine sc_exit ?_ | with_reducible refine sq_then_exit ?_ | with_reducible refine sq_block_exit ?_ | with_reducible refine sq_block_past ?_ | with_reducible refine sq_round_ret ?_ | with_reducible refine sq_round_exit ?_ | fail))
      all_goals (refine sg_done (by kernel_rfl) rfl ?_)
      rw [oR_gset hm]
      repeat' (first | with_reducible refine sw_op ?_ | with_reducible refine sw_op_ ?_ | with_reducible refine sw_nil ?_ | with_reducible refine sq_then ?_ | with_reducible refine sc_seq ?_ | with_reducible refine sc_region ?_ | with_reducible refine sw_guard_skip ?_ | with_reducible refine sw_guard_skip_ ?_ | with_reducible refine sw_guard_run ?_ | with_reducible refine sc_cond_true ?_ | with_reducible refine sc_cond_false ?_ | with_reducible refine sc_ret ?_ | with_reducible refine sq_then_ret ?_ | with_reducible refine sc_skip ?_ | with_reducible refine sc_block ?_ | with_reducible refine sq_block ?_ | with_reducible refine sq_block_ret ?_ | with_reducible refine sc_exit ?_ | with_reducible refine sq_then_exit ?_ | with_reducible refine sq_block_exit ?_ | with_reducible refine sq_block_past ?_ | with_reducible refine sq_round_ret ?_ | with_reducible refine sq_round_exit ?_ | fail)
      refine sw_idxA m ⟨rfl, by omega⟩ ?_
      refine sw_loadAt (.int .i64 s.last) (by rw [oR_at hm]; simp) ?_
      repeat' (first | with_reducible refine sw_op ?_ | with_reducible refine sw_op_ ?_ | with_reducible refine sw_nil ?_ | with_reducible refine sq_then ?_ | with_reducible refine sc_seq ?_ | with_reducible refine sc_region ?_ | with_reducible refine sw_guard_skip ?_ | with_reducible refine sw_guard_skip_ ?_ | with_reducible refine sw_guard_run ?_ | with_reducible refine sc_cond_true ?_ | with_reducible refine sc_cond_false ?_ | with_reducible refine sc_ret ?_ | with_reducible refine sq_then_ret ?_ | with_reducible refine sc_skip ?_ | with_reducible refine sc_block ?_ | with_reducible refine sq_block ?_ | with_reducible refine sq_block_ret ?_ | with_reducible refine sc_exit ?_ | with_reducible refine sq_then_exit ?_ | with_reducible refine sq_block_exit ?_ | with_reducible refine sq_block_past ?_ | with_reducible refine sq_round_ret ?_ | with_reducible refine sq_round_exit ?_ | fail)
      refine sq_ret2 Try.results65 ⟨_, .inr ⟨rfl, by rw [hpub], rfl⟩, Ent.trans ?_ hcl2⟩
      rw [hpub]
      repeat' (first | with_reducible exact Ent.refl _ | with_reducible refine Ent.take_eq ?_ ?_ | rfl | with_reducible refine Ent.trans (Ent.drop _ _) ?_)
    | some y =>
      obtain ⟨b, r⟩ := y
      have hz : (L = [] ∧ s.pub = s.last) ∨ ∃ R, L = (s.pub + 1) :: R := hpb
      have hb0 : 0 ≤ s.pub ∧ s.pub ≤ 1099511627776 := by omega
      dsimp only [jV, jR] at hcl2 ⊢
      refine sc_drawG (m := 8) ([]) (by kernel_rfl) rfl ?_
      all_goals (first | refine sg_take 0 (by repeat' (first | with_reducible exact calm_post | with_reducible refine Calm.then ?_ | with_reducible refine Calm.block ?_ | with_reducible refine Calm.round ?_ | with_reducible refine Calm.mark ?_)) rfl (by kernel_rfl) (by kernel_rfl) (by kernel_rfl) ?_)
      all_goals (first | refine sg_take 1 (by repeat' (first | with_reducible exact calm_post | with_reducible refine Calm.then ?_ | with_reducible refine Calm.block ?_ | with_reducible refine Calm.round ?_ | with_reducible refine Calm.mark ?_)) rfl (by kernel_rfl) (by kernel_rfl) (by kernel_rfl) ?_)
      all_goals (first | refine sg_take 2 (by repeat' (first | with_reducible exact calm_post | with_reducible refine Calm.then ?_ | with_reducible refine Calm.block ?_ | with_reducible refine Calm.round ?_ | with_reducible refine Calm.mark ?_)) rfl (by kernel_rfl) (by kernel_rfl) (by kernel_rfl) ?_)
      all_goals (first | refine sg_take 4 (by repeat' (first | with_reducible exact calm_post | with_reducible refine Calm.then ?_ | with_reducible refine Calm.block ?_ | with_reducible refine Calm.round ?_ | with_reducible refine Calm.mark ?_)) rfl (by kernel_rfl) (by kernel_rfl) (by kernel_rfl) ?_)
      all_goals (first | refine sg_take 5 (by repeat' (first | with_reducible exact calm_post | with_reducible refine Calm.then ?_ | with_reducible refine Calm.block ?_ | with_reducible refine Calm.round ?_ | with_reducible refine Calm.mark ?_)) rfl (by kernel_rfl) (by kernel_rfl) (by kernel_rfl) ?_)
      all_goals (refine sg_one 3 rfl (by kernel_rfl) rfl ?_)
      all_goals (repeat' (first | with_reducible refine sw_op ?_ | with_reducible refine sw_op_ ?_ | ((with_reducible refine sw_call (r27_some p b _ s.last s.pub _ g L r hz hb0) ?_); rintro _ _ ⟨rfl, rfl⟩) | with_reducible refine sw_storeAt (by rw [oR_len]; omega) ?_ | with_reducible refine sg_back ?_ | with_reducible refine sw_nil ?_ | with_reducible refine sq_then ?_ | with_reducible refine sc_seq ?_ | with_reducible refine sc_region ?_ | with_reducible refine sw_guard_skip ?_ | with_reducible refine sw_guard_skip_ ?_ | with_reducible refine sw_guard_run ?_ | with_reducible refine sc_cond_true ?_ | with_reducible refine sc_cond_false ?_ | with_reducible refine sc_ret ?_ | with_reducible refine sq_then_ret ?_ | with_reducible refine sc_skip ?_ | with_reducible refine sc_block ?_ | with_reducible refine sq_block ?_ | with_reducible refine sq_block_ret ?_ | with_reducible refine sc_exit ?_ | with_reducible refine sq_then_exit ?_ | with_reducible refine sq_block_exit ?_ | with_reducible refine sq_block_past ?_ | with_reducible refine sq_round_ret ?_ | with_reducible refine sq_round_exit ?_ | fail))
      all_goals (first | refine sg_take 6 (by repeat' (first | with_reducible exact calm_post | with_reducible refine Calm.then ?_ | with_reducible refine Calm.block ?_ | with_reducible refine Calm.round ?_ | with_reducible refine Calm.mark ?_)) rfl (by kernel_rfl) (by kernel_rfl) (by kernel_rfl) (h := runop_idxA m ⟨rfl, by omega⟩) ?_ | refine sg_take 6 (by repeat' (first | with_reducible exact calm_post | with_reducible refine Calm.then ?_ | with_reducible refine Calm.block ?_ | with_reducible refine Calm.round ?_ | with_reducible refine Calm.mark ?_)) rfl (by kernel_rfl) (by kernel_rfl) (by kernel_rfl) ?_)
      all_goals (refine sg_one 7 rfl (by kernel_rfl) rfl ?_)
      all_goals (repeat' (first | with_reducible refine sw_op ?_ | with_reducible refine sw_op_ ?_ | ((with_reducible refine sw_call (r27_some p b _ s.last s.pub _ g L r hz hb0) ?_); rintro _ _ ⟨rfl, rfl⟩) | with_reducible refine sw_storeAt (by rw [oR_len]; omega) ?_ | with_reducible refine sg_back ?_ | with_reducible refine sw_nil ?_ | with_reducible refine sq_then ?_ | with_reducible refine sc_seq ?_ | with_reducible refine sc_region ?_ | with_reducible refine sw_guard_skip ?_ | with_reducible refine sw_guard_skip_ ?_ | with_reducible refine sw_guard_run ?_ | with_reducible refine sc_cond_true ?_ | with_reducible refine sc_cond_false ?_ | with_reducible refine sc_ret ?_ | with_reducible refine sq_then_ret ?_ | with_reducible refine sc_skip ?_ | with_reducible refine sc_block ?_ | with_reducible refine sq_block ?_ | with_reducible refine sq_block_ret ?_ | with_reducible refine sc_exit ?_ | with_reducible refine sq_then_exit ?_ | with_reducible refine sq_block_exit ?_ | with_reducible refine sq_block_past ?_ | with_reducible refine sq_round_ret ?_ | with_reducible refine sq_round_exit ?_ | fail))
      all_goals (refine sg_done (by kernel_rfl) rfl ?_)
      rw [oR_gset hm]
      repeat' (first | with_reducible refine sw_op ?_ | with_reducible refine sw_op_ ?_ | with_reducible refine sw_nil ?_ | with_reducible refine sq_then ?_ | with_reducible refine sc_seq ?_ | with_reducible refine sc_region ?_ | with_reducible refine sw_guard_skip ?_ | with_reducible refine sw_guard_skip_ ?_ | with_reducible refine sw_guard_run ?_ | with_reducible refine sc_cond_true ?_ | with_reducible refine sc_cond_false ?_ | with_reducible refine sc_ret ?_ | with_reducible refine sq_then_ret ?_ | with_reducible refine sc_skip ?_ | with_reducible refine sc_block ?_ | with_reducible refine sq_block ?_ | with_reducible refine sq_block_ret ?_ | with_reducible refine sc_exit ?_ | with_reducible refine sq_then_exit ?_ | with_reducible refine sq_block_exit ?_ | with_reducible refine sq_block_past ?_ | with_reducible refine sq_round_ret ?_ | with_reducible refine sq_round_exit ?_ | fail)
      refine sw_idxA m ⟨rfl, by omega⟩ ?_
      refine sw_loadAt (.int .i64 s.pub) (by rw [oR_at hm]; simp) ?_
      repeat' (first | with_reducible refine sw_op ?_ | with_reducible refine sw_op_ ?_ | with_reducible refine sw_nil ?_ | with_reducible refine sq_then ?_ | with_reducible refine sc_seq ?_ | with_reducible refine sc_region ?_ | with_reducible refine sw_guard_skip ?_ | with_reducible refine sw_guard_skip_ ?_ | with_reducible refine sw_guard_run ?_ | with_reducible refine sc_cond_true ?_ | with_reducible refine sc_cond_false ?_ | with_reducible refine sc_ret ?_ | with_reducible refine sq_then_ret ?_ | with_reducible refine sc_skip ?_ | with_reducible refine sc_block ?_ | with_reducible refine sq_block ?_ | with_reducible refine sq_block_ret ?_ | with_reducible refine sc_exit ?_ | with_reducible refine sq_then_exit ?_ | with_reducible refine sq_block_exit ?_ | with_reducible refine sq_block_past ?_ | with_reducible refine sq_round_ret ?_ | with_reducible refine sq_round_exit ?_ | fail)
      refine sq_ret2 Try.results65 ⟨_, .inr ⟨rfl, rfl, rfl⟩, Ent.trans ?_ hcl2⟩
      repeat' (first | with_reducible exact Ent.refl _ | with_reducible refine Ent.take_eq ?_ ?_ | rfl | with_reducible refine Ent.trans (Ent.drop _ _) ?_)
end Go.Gsl
