/- The document's oracle: Publish. -/
import Derived.Test.YtccmenekmmlboaaOrR2
namespace Go.Gsl
set_option linter.unusedVariables false
open Go.Proofs Go.RowKit

def PubOr (s s' : Or) (ts x : Int) : Prop := ((ts ≤ s.pub ∨ s.last < ts ∨ s.A ts = true) ∧ x = 1 ∧ s' = s) ∨ (s.pub < ts ∧ ts ≤ s.last ∧ s.A ts = false ∧ x = 0 ∧ s.Pub ts s')
theorem PendL.out {s s' : Or} {P : List Int} {ts x : Int} (h : PendL s P) (hs : PubOr s s' ts x) (hn : ts ∉ P) : x = 1 ∧ s' = s := by
  rcases hs with hs | ⟨h1, h2, h3, _⟩
  · exact hs.2
  · exact absurd ((h.mem ts).2 ⟨h1, h2, h3⟩) hn
theorem PendL.hit {s s' : Or} {P : List Int} {ts x : Int} (h : PendL s P) (hs : PubOr s s' ts x) (hn : ts ∈ P) : x = 0 ∧ s.Pub ts s' := by
  rcases hs with ⟨h1, _⟩ | hs
  · obtain ⟨a, b, c⟩ := (h.mem ts).1 hn
    rcases h1 with h1 | h1 | h1
    · omega
    · omega
    · rw [h1] at c; cases c
  · exact ⟨hs.2.2.2.1, hs.2.2.2.2⟩
theorem PendL.pubd {s s' : Or} {A B : List Int} {ts : Int} (h : PendL s (A ++ ts :: B)) (hp : s.Pub ts s') : PendL s' (A ++ B) := by
  have hq := h.lt
  rw [List.pairwise_append, List.pairwise_cons] at hq
  obtain ⟨ha, ⟨ht, hb⟩, hab⟩ := hq
  refine ⟨List.pairwise_append.2 ⟨ha, hb, fun a ha b hb => hab a ha b (by simp [hb])⟩, fun j => ?_⟩
  have h1 : PendOf s fun j => decide (j ∈ A ++ ts :: B) := fun j => by rw [decide_eq_true_eq]; exact h.mem j
  have h2 := pend_pub h1 hp j
  rw [← h2]
  simp only [Bool.and_eq_true, bne_iff_ne, decide_eq_true_eq, List.mem_append, List.mem_cons]
  constructor
  · rintro (hj | hj)
    · have := hab j hj ts (by simp); exact ⟨by omega, .inl hj⟩
    · have := ht j hj; exact ⟨by omega, .inr (.inr hj)⟩
  · rintro ⟨hne, hj | hj | hj⟩
    · exact .inl hj
    · exact absurd hj hne
    · exact .inr hj
theorem pubd_ok {s s' : Or} {x : OX} {A B : List Int} {ts : Int} {y : Option (Nat × List Value)} (hx : x.Ok s) (hp : s.Pub ts s') (hP : x.P = A ++ ts :: B) (hy : y = none → A ++ B = []) : ({ x with P := A ++ B, y := y } : OX).Ok s' :=
  ⟨hp.wf, (hP ▸ hx.pend).pubd hp, hy, fun i h => by show x.f i = _; rw [hp.O]; exact hx.is' i h, fun i t h => hx.at' i t (by rw [← hp.O]; exact h)⟩

theorem take_src {P : List Int} {r : List Value} {i : Nat} : ∀ (j : Nat) (v : Value), ((P.take i).map (Value.int .i64))[j]? = some v → (P.map (Value.int .i64) ++ r)[0 + j]? = some v := by
  intro j v h
  rw [List.map_take, List.getElem?_take] at h
  split at h
  · rw [Nat.zero_add, List.getElem?_append_left (List.getElem?_eq_some_iff.1 h).1]; exact h
  · cases h
theorem drop_src {P : List Int} {r : List Value} {k o : Nat} (ho : k < P.length → o = k) : ∀ (j : Nat) (v : Value), ((P.drop k).map (Value.int .i64))[j]? = some v → (P.map (Value.int .i64) ++ r)[o + j]? = some v := by
  intro j v h
  have hl := (List.getElem?_eq_some_iff.1 h).1
  rw [List.length_map, List.length_drop] at hl
  rw [ho (by omega)]
  rw [List.map_drop, List.getElem?_drop] at h
  rw [List.getElem?_append_left (List.getElem?_eq_some_iff.1 h).1]; exact h
theorem split_at {P : List Int} {i : Nat} {ts : Int} (h : P[i]? = some ts) : P = P.take i ++ ts :: P.drop (i + 1) := by
  obtain ⟨hi, he⟩ := List.getElem?_eq_some_iff.1 h
  rw [← he, ← List.drop_eq_getElem_cons hi, List.take_append_drop]

set_option maxHeartbeats 1000000 in
/-- Publish -/
theorem r64_ok (p : Nat) (s s' : Or) (ts x : Int) (hs : PubOr s s' ts x) : Spec Try.prog 64 [.pointer (some ⟨p, 0, none⟩), .int .i64 ts] [p] [RF p s] fun F v Rs' => v = .int .i64 x ∧ Rs' = (p, RF p s') :: F := by
  refine spec_of Try.func64 rfl Try.ntmps64 rfl ?_
  intro w0 F
  refine RF.sc (p := p) (s := s) fun X hx => ?_
  have hfew := hx.pend.few hx.wf
  have hout : ts ∉ X.P → x = 1 ∧ s' = s := hx.pend.out hs
  have hhit : ts ∈ X.P → x = 0 ∧ s.Pub ts s' := hx.pend.hit hs
  have hnil := hx.nil
  have hcl : Ent (RFl p s X F) ((p, RF p s) :: F) := RF.close hx
  have hcl2 : ∀ i y, s.Pub ts s' → X.P[i]? = some ts → (y = none → X.P.take i ++ X.P.drop (i + 1) = []) → Ent (RFl p s' { X with P := X.P.take i ++ X.P.drop (i + 1), y := y } F) ((p, RF p s') :: F) := fun i y hp hi hy => RF.close (pubd_ok hx hp (split_at hi) hy)
  unfold RFl at hcl hcl2 ⊢
  obtain ⟨f, g, P, y⟩ := X
  dsimp only at hfew hout hhit hnil hcl hcl2 ⊢
  cases y with
  | none =>
    obtain rfl : P = [] := hnil rfl
    obtain ⟨rfl, rfl⟩ := hout (by simp)
    dsimp only [jV, jR] at hcl ⊢
    repeat' (first | with_reducible refine sw_op ?_ | with_reducible refine sw_op_ ?_ | with_reducible refine sw_nil ?_ | with_reducible refine sq_then ?_ | with_reducible refine sc_seq ?_ | with_reducible refine sc_region ?_ | with_reducible refine sw_guard_skip ?_ | with_reducible refine sw_guard_skip_ ?_ | with_reducible refine sw_guard_run ?_ | with_reducible refine sc_cond_true ?_ | with_reducible refine sc_cond_false ?_ | with_reducible refine sc_ret ?_ | with_reducible refine sq_then_ret ?_ | with_reducible refine sc_skip ?_ | with_reducible refine sc_block ?_ | with_reducible refine sq_block ?_ | with_reducible refine sq_block_ret ?_ | with_reducible refine sc_exit ?_ | with_reducible refine sq_then_exit ?_ | with_reducible refine sq_block_exit ?_ | with_reducible refine sq_block_past ?_ | with_reducible refine sq_round_ret ?_ | with_reducible refine sq_round_exit ?_ | fail)
    refine sc_loop (α := Unit) (fun _ => [(0, .pointer (some ⟨p, 0, none⟩)), (1, .int .i64 ts), (5, .int .i64 0)]) (fun _ => (p, pts p (orefO s'.last (.slice none 0 0) f g)) :: F) (fun _ => 0) () ?_ ?_ ?_
    · repeat' (first | exact says_nil | refine says_cons rfl ?_ | refine says_cons (by simp) ?_)
    · repeat' (first | with_reducible exact Ent.refl _ | with_reducible refine Ent.take_eq ?_ ?_ | rfl | with_reducible refine Ent.trans (Ent.drop _ _) ?_)
    rintro ⟨⟩ e
    simp only [List.cons_append, List.nil_append]
    repeat' (first | with_reducible refine sw_op ?_ | with_reducible refine sw_op_ ?_ | with_reducible refine sw_nil ?_ | with_reducible refine sq_then ?_ | with_reducible refine sc_seq ?_ | with_reducible refine sc_region ?_ | with_reducible refine sw_guard_skip ?_ | with_reducible refine sw_guard_skip_ ?_ | with_reducible refine sw_guard_run ?_ | with_reducible refine sc_cond_true ?_ | with_reducible refine sc_cond_false ?_ | with_reducible refine sc_ret ?_ | with_reducible refine sq_then_ret ?_ | with_reducible refine sc_skip ?_ | with_reducible refine sc_block ?_ | with_reducible refine sq_block ?_ | with_reducible refine sq_block_ret ?_ | with_reducible refine sc_exit ?_ | with_reducible refine sq_then_exit ?_ | with_reducible refine sq_block_exit ?_ | with_reducible refine sq_block_past ?_ | with_reducible refine sq_round_ret ?_ | with_reducible refine sq_round_exit ?_ | (with_reducible refine sc_cond (fun h => ?_) (fun h => ?_)) <;> (try (exfalso; first | contradiction | omega | exact h Iff.rfl)) | fail)
    refine sq_ret1 Try.results64 ⟨_, ⟨rfl, rfl⟩, Ent.trans ?_ hcl⟩
    repeat' (first | with_reducible exact Ent.refl _ | with_reducible refine Ent.take_eq ?_ ?_ | rfl | with_reducible refine Ent.trans (Ent.drop _ _) ?_)
  | some y =>
    obtain ⟨b, r⟩ := y
    dsimp only [jV, jR] at hcl ⊢
    repeat' (first | with_reducible refine sw_op ?_ | with_reducible refine sw_op_ ?_ | with_reducible refine sw_nil ?_ | with_reducible refine sq_then ?_ | with_reducible refine sc_seq ?_ | with_reducible refine sc_region ?_ | with_reducible refine sw_guard_skip ?_ | with_reducible refine sw_guard_skip_ ?_ | with_reducible refine sw_guard_run ?_ | with_reducible refine sc_cond_true ?_ | with_reducible refine sc_cond_false ?_ | with_reducible refine sc_ret ?_ | with_reducible refine sq_then_ret ?_ | with_reducible refine sc_skip ?_ | with_reducible refine sc_block ?_ | with_reducible refine sq_block ?_ | with_reducible refine sq_block_ret ?_ | with_reducible refine sc_exit ?_ | with_reducible refine sq_then_exit ?_ | with_reducible refine sq_block_exit ?_ | with_reducible refine sq_block_past ?_ | with_reducible refine sq_round_ret ?_ | with_reducible refine sq_round_exit ?_ | fail)
    refine sc_loop (α := { i : Nat // i ≤ P.length ∧ ∀ j, j < i → P[j]? ≠ some ts }) (fun i => [(0, .pointer (some ⟨p, 0, none⟩)), (1, .int .i64 ts), (5, .int .i64 i.1)])
      (fun _ => (p, pts p (orefO s.last (.slice (some ⟨b, 0, none⟩) P.length (P.length + r.length)) f g)) :: (b, pts b (.cells (P.map (Value.int .i64) ++ r).toArray 2 (0, 0))) :: F) (fun i => P.length - i.1) ⟨0, Nat.zero_le _, fun j h => by omega⟩ ?_ ?_ ?_
    · repeat' (first | exact says_nil | refine says_cons rfl ?_ | refine says_cons (by simp) ?_)
    · repeat' (first | with_reducible exact Ent.refl _ | with_reducible refine Ent.take_eq ?_ ?_ | rfl | with_reducible refine Ent.trans (Ent.drop _ _) ?_)
    rintro ⟨i, hi, hall⟩ e
    simp only [List.cons_append, List.nil_append]
    repeat' (first | with_reducible refine sw_op ?_ | with_reducible refine sw_op_ ?_ | with_reducible refine sw_nil ?_ | with_reducible refine sq_then ?_ | with_reducible refine sc_seq ?_ | with_reducible refine sc_region ?_ | with_reducible refine sw_guard_skip ?_ | with_reducible refine sw_guard_skip_ ?_ | with_reducible refine sw_guard_run ?_ | with_reducible refine sc_cond_true ?_ | with_reducible refine sc_cond_false ?_ | with_reducible refine sc_ret ?_ | with_reducible refine sq_then_ret ?_ | with_reducible refine sc_skip ?_ | with_reducible refine sc_block ?_ | with_reducible refine sq_block ?_ | with_reducible refine sq_block_ret ?_ | with_reducible refine sc_exit ?_ | with_reducible refine sq_then_exit ?_ | with_reducible refine sq_block_exit ?_ | with_reducible refine sq_block_past ?_ | with_reducible refine sq_round_ret ?_ | with_reducible refine sq_round_exit ?_ | (with_reducible refine sc_cond (fun h => ?_) (fun h => ?_)) <;> (try (exfalso; first | contradiction | omega | exact h Iff.rfl)) | fail)
    focus
      have hlt : i < P.length := by omega
      have hPi : P[i]? = some P[i] := List.getElem?_eq_getElem hlt
      refine sw_idx i ⟨rfl, hlt⟩ ?_
      refine sw_loadAt (.int .i64 P[i]) (by rw [List.getElem?_append_left (by rw [List.length_map]; exact hlt), List.getElem?_map, hPi]; rfl) ?_
      repeat' (first | with_reducible refine sw_in (by omega) ?_ | with_reducible refine sw_op ?_ | with_reducible refine sw_op_ ?_ | with_reducible refine sw_nil ?_ | with_reducible refine sq_then ?_ | with_reducible refine sc_seq ?_ | with_reducible refine sc_region ?_ | with_reducible refine sw_guard_skip ?_ | with_reducible refine sw_guard_skip_ ?_ | with_reducible refine sw_guard_run ?_ | with_reducible refine sc_cond_true ?_ | with_reducible refine sc_cond_false ?_ | with_reducible refine sc_ret ?_ | with_reducible refine sq_then_ret ?_ | with_reducible refine sc_skip ?_ | with_reducible refine sc_block ?_ | with_reducible refine sq_block ?_ | with_reducible refine sq_block_ret ?_ | with_reducible refine sc_exit ?_ | with_reducible refine sq_then_exit ?_ | with_reducible refine sq_block_exit ?_ | with_reducible refine sq_block_past ?_ | with_reducible refine sq_round_ret ?_ | with_reducible refine sq_round_exit ?_ | (with_reducible refine sc_cond (fun h => ?_) (fun h => ?_)) <;> (try (exfalso; first | contradiction | omega | exact h Iff.rfl)) | (with_reducible refine sw_guard_split (fun h => ?_) (fun h => ?_)) <;> (try (exfalso; first | contradiction | omega | exact h Iff.rfl)) | (with_reducible refine sw_pick (fun h => ?_) (fun h => ?_)) <;> (try (exfalso; first | contradiction | omega | exact h Iff.rfl)) | fail)
      · have hPi : P[i]? = some ts := by rw [hPi, h]
        obtain ⟨rfl, hp⟩ := hhit (List.mem_of_getElem? hPi)
        have hcl3 := fun y => hcl2 i y hp hPi
        clear hcl2 hcl hout hhit
        have hdl : (P.drop (i + 1)).length = P.length - (i + 1) := List.length_drop
        have htl : (P.take i).length = i := by rw [List.length_take]; omega
        obtain ⟨o, ho1, ho2⟩ : ∃ o, (if P.length + r.length = i + 1 then 0 else 0 + (i + 1)) = o ∧ (i + 1 < P.length → o = i + 1) := ⟨_, rfl, fun h => by rw [if_neg (by omega)]; omega⟩
        refine sw_slice 0 i (P.length + r.length) 0 (by omega) ⟨rfl, rfl, rfl, by split <;> rfl⟩ ?_
        simp only [Nat.sub_zero]
        rw [← hp.last] at *
        rcases Nat.eq_zero_or_pos i with rfl | hpos
        · refine sw_append_nn rfl ?_
          repeat' (first | with_reducible refine sw_i64 (by omega) ?_ | with_reducible refine sw_op ?_ | with_reducible refine sw_op_ ?_ | with_reducible refine sw_nil ?_ | with_reducible refine sq_then ?_ | with_reducible refine sc_seq ?_ | with_reducible refine sc_region ?_ | with_reducible refine sw_guard_skip ?_ | with_reducible refine sw_guard_skip_ ?_ | with_reducible refine sw_guard_run ?_ | with_reducible refine sc_cond_true ?_ | with_reducible refine sc_cond_false ?_ | with_reducible refine sc_ret ?_ | with_reducible refine sq_then_ret ?_ | with_reducible refine sc_skip ?_ | with_reducible refine sc_block ?_ | with_reducible refine sq_block ?_ | with_reducible refine sq_block_ret ?_ | with_reducible refine sc_exit ?_ | with_reducible refine sq_then_exit ?_ | with_reducible refine sq_block_exit ?_ | with_reducible refine sq_block_past ?_ | with_reducible refine sq_round_ret ?_ | with_reducible refine sq_round_exit ?_ | fail)
          refine sw_slice (0 + 1) P.length (P.length + r.length) o (by omega) ⟨rfl, rfl, rfl, ho1⟩ ?_
          rcases Nat.eq_zero_or_pos (P.length - (0 + 1)) with hz | hz
          · refine sw_append_nn hz ?_
            repeat' (first | with_reducible refine sw_op ?_ | with_reducible refine sw_op_ ?_ | with_reducible refine sw_nil ?_ | with_reducible refine sq_then ?_ | with_reducible refine sc_seq ?_ | with_reducible refine sc_region ?_ | with_reducible refine sw_guard_skip ?_ | with_reducible refine sw_guard_skip_ ?_ | with_reducible refine sw_guard_run ?_ | with_reducible refine sc_cond_true ?_ | with_reducible refine sc_cond_false ?_ | with_reducible refine sc_ret ?_ | with_reducible refine sq_then_ret ?_ | with_reducible refine sc_skip ?_ | with_reducible refine sc_block ?_ | with_reducible refine sq_block ?_ | with_reducible refine sq_block_ret ?_ | with_reducible refine sc_exit ?_ | with_reducible refine sq_then_exit ?_ | with_reducible refine sq_block_exit ?_ | with_reducible refine sq_block_past ?_ | with_reducible refine sq_round_ret ?_ | with_reducible refine sq_round_exit ?_ | fail)
            refine sw_storeAt (by rw [oR_len]; omega) ?_
            rw [oR_set1]
            repeat' (first | with_reducible refine sw_op ?_ | with_reducible refine sw_op_ ?_ | with_reducible refine sw_nil ?_ | with_reducible refine sq_then ?_ | with_reducible refine sc_seq ?_ | with_reducible refine sc_region ?_ | with_reducible refine sw_guard_skip ?_ | with_reducible refine sw_guard_skip_ ?_ | with_reducible refine sw_guard_run ?_ | with_reducible refine sc_cond_true ?_ | with_reducible refine sc_cond_false ?_ | with_reducible refine sc_ret ?_ | with_reducible refine sq_then_ret ?_ | with_reducible refine sc_skip ?_ | with_reducible refine sc_block ?_ | with_reducible refine sq_block ?_ | with_reducible refine sq_block_ret ?_ | with_reducible refine sc_exit ?_ | with_reducible refine sq_then_exit ?_ | with_reducible refine sq_block_exit ?_ | with_reducible refine sq_block_past ?_ | with_reducible refine sq_round_ret ?_ | with_reducible refine sq_round_exit ?_ | fail)
            refine sq_ret1 Try.results64 ⟨_, ⟨rfl, rfl⟩, Ent.trans ?_ (hcl3 none fun _ => by rw [List.take_zero, List.nil_append]; exact List.eq_nil_of_length_eq_zero (by omega))⟩
            dsimp only [jV, jR]
            repeat' (first | with_reducible exact Ent.refl _ | with_reducible refine Ent.take_eq ?_ ?_ | rfl | with_reducible refine Ent.trans (Ent.drop _ _) ?_)
          · refine sw_append_nil (src := (P.drop (0 + 1)).map (Value.int .i64)) (src_of_pts (off := o) (drop_src ho2)) ⟨hz, by rw [List.length_map, hdl], by omega, by omega⟩ fun b2 r2 => ?_
            repeat' (first | with_reducible refine sw_op ?_ | with_reducible refine sw_op_ ?_ | with_reducible refine sw_nil ?_ | with_reducible refine sq_then ?_ | with_reducible refine sc_seq ?_ | with_reducible refine sc_region ?_ | with_reducible refine sw_guard_skip ?_ | with_reducible refine sw_guard_skip_ ?_ | with_reducible refine sw_guard_run ?_ | with_reducible refine sc_cond_true ?_ | with_reducible refine sc_cond_false ?_ | with_reducible refine sc_ret ?_ | with_reducible refine sq_then_ret ?_ | with_reducible refine sc_skip ?_ | with_reducible refine sc_block ?_ | with_reducible refine sq_block ?_ | with_reducible refine sq_block_ret ?_ | with_reducible refine sc_exit ?_ | with_reducible refine sq_then_exit ?_ | with_reducible refine sq_block_exit ?_ | with_reducible refine sq_block_past ?_ | with_reducible refine sq_round_ret ?_ | with_reducible refine sq_round_exit ?_ | fail)
            refine sw_storeAt (by rw [oR_len]; omega) ?_
            rw [oR_set1]
            repeat' (first | with_reducible refine sw_op ?_ | with_reducible refine sw_op_ ?_ | with_reducible refine sw_nil ?_ | with_reducible refine sq_then ?_ | with_reducible refine sc_seq ?_ | with_reducible refine sc_region ?_ | with_reducible refine sw_guard_skip ?_ | with_reducible refine sw_guard_skip_ ?_ | with_reducible refine sw_guard_run ?_ | with_reducible refine sc_cond_true ?_ | with_reducible refine sc_cond_false ?_ | with_reducible refine sc_ret ?_ | with_reducible refine sq_then_ret ?_ | with_reducible refine sc_skip ?_ | with_reducible refine sc_block ?_ | with_reducible refine sq_block ?_ | with_reducible refine sq_block_ret ?_ | with_reducible refine sc_exit ?_ | with_reducible refine sq_then_exit ?_ | with_reducible refine sq_block_exit ?_ | with_reducible refine sq_block_past ?_ | with_reducible refine sq_round_ret ?_ | with_reducible refine sq_round_exit ?_ | fail)
            refine sq_ret1 Try.results64 ⟨_, ⟨rfl, rfl⟩, Ent.trans ?_ (hcl3 (some (b2, r2)) fun h => by cases h)⟩
            dsimp only [jV, jR]
            rw [List.take_zero, List.nil_append, hdl]
            repeat' (first | with_reducible exact Ent.refl _ | with_reducible refine Ent.take_eq ?_ ?_ | rfl | with_reducible refine Ent.trans (Ent.drop _ _) ?_)
        · refine sw_append_nil (src := (P.take i).map (Value.int .i64)) (src_of_pts (off := 0) take_src) ⟨hpos, by rw [List.length_map, htl], by omega, by omega⟩ fun b1 r1 => ?_
          repeat' (first | with_reducible refine sw_i64 (by omega) ?_ | with_reducible refine sw_op ?_ | with_reducible refine sw_op_ ?_ | with_reducible refine sw_nil ?_ | with_reducible refine sq_then ?_ | with_reducible refine sc_seq ?_ | with_reducible refine sc_region ?_ | with_reducible refine sw_guard_skip ?_ | with_reducible refine sw_guard_skip_ ?_ | with_reducible refine sw_guard_run ?_ | with_reducible refine sc_cond_true ?_ | with_reducible refine sc_cond_false ?_ | with_reducible refine sc_ret ?_ | with_reducible refine sq_then_ret ?_ | with_reducible refine sc_skip ?_ | with_reducible refine sc_block ?_ | with_reducible refine sq_block ?_ | with_reducible refine sq_block_ret ?_ | with_reducible refine sc_exit ?_ | with_reducible refine sq_then_exit ?_ | with_reducible refine sq_block_exit ?_ | with_reducible refine sq_block_past ?_ | with_reducible refine sq_round_ret ?_ | with_reducible refine sq_round_exit ?_ | fail)
          refine sw_slice (i + 1) P.length (P.length + r.length) o (by omega) ⟨rfl, rfl, rfl, ho1⟩ ?_
          refine sw_append (src := (P.drop (i + 1)).map (Value.int .i64)) (src_of_pts (off := o) (drop_src ho2)) (one_ints _ _) ⟨by omega, by rw [List.length_append, List.length_map, htl], by rw [List.length_map, hdl], by omega, by omega⟩ fun b2 r2 => ?_
          rw [List.take_left' (by rw [List.length_map, htl])]
          repeat' (first | with_reducible refine sw_op ?_ | with_reducible refine sw_op_ ?_ | with_reducible refine sw_nil ?_ | with_reducible refine sq_then ?_ | with_reducible refine sc_seq ?_ | with_reducible refine sc_region ?_ | with_reducible refine sw_guard_skip ?_ | with_reducible refine sw_guard_skip_ ?_ | with_reducible refine sw_guard_run ?_ | with_reducible refine sc_cond_true ?_ | with_reducible refine sc_cond_false ?_ | with_reducible refine sc_ret ?_ | with_reducible refine sq_then_ret ?_ | with_reducible refine sc_skip ?_ | with_reducible refine sc_block ?_ | with_reducible refine sq_block ?_ | with_reducible refine sq_block_ret ?_ | with_reducible refine sc_exit ?_ | with_reducible refine sq_then_exit ?_ | with_reducible refine sq_block_exit ?_ | with_reducible refine sq_block_past ?_ | with_reducible refine sq_round_ret ?_ | with_reducible refine sq_round_exit ?_ | fail)
          refine sw_storeAt (by rw [oR_len]; omega) ?_
          rw [oR_set1]
          repeat' (first | with_reducible refine sw_op ?_ | with_reducible refine sw_op_ ?_ | with_reducible refine sw_nil ?_ | with_reducible refine sq_then ?_ | with_reducible refine sc_seq ?_ | with_reducible refine sc_region ?_ | with_reducible refine sw_guard_skip ?_ | with_reducible refine sw_guard_skip_ ?_ | with_reducible refine sw_guard_run ?_ | with_reducible refine sc_cond_true ?_ | with_reducible refine sc_cond_false ?_ | with_reducible refine sc_ret ?_ | with_reducible refine sq_then_ret ?_ | with_reducible refine sc_skip ?_ | with_reducible refine sc_block ?_ | with_reducible refine sq_block ?_ | with_reducible refine sq_block_ret ?_ | with_reducible refine sc_exit ?_ | with_reducible refine sq_then_exit ?_ | with_reducible refine sq_block_exit ?_ | with_reducible refine sq_block_past ?_ | with_reducible refine sq_round_ret ?_ | with_reducible refine sq_round_exit ?_ | fail)
          refine sq_ret1 Try.results64 ⟨_, ⟨rfl, rfl⟩, Ent.trans ?_ (hcl3 (some (b2, r2)) fun h => by cases h)⟩
          dsimp only [jV, jR]
          rw [List.map_append, List.length_append, htl, hdl]
          repeat' (first | with_reducible exact Ent.refl _ | with_reducible refine Ent.take_eq ?_ ?_ | rfl | with_reducible refine Ent.trans (Ent.drop _ _) ?_)
      · refine sq_round ⟨i + 1, hlt, fun j hj => by
          by_cases hji : j = i
          · subst hji; rw [hPi]; intro h'; exact h (Option.some.inj h')
          · exact hall j (by omega)⟩ ?_ ?_ ?_
        · show P.length - (i + 1) < P.length - i
          omega
        · repeat' (first | exact says_nil | refine says_cons rfl ?_ | refine says_cons (by simp) ?_)
        · repeat' (first | with_reducible exact Ent.refl _ | with_reducible refine Ent.take_eq ?_ ?_ | rfl | with_reducible refine Ent.trans (Ent.drop _ _) ?_)
    have hi2 : i = P.length := by omega
    subst hi2
    obtain ⟨rfl, rfl⟩ := hout (fun hm => by obtain ⟨j, hj, he⟩ := List.mem_iff_getElem.1 hm; exact hall j hj (by rw [List.getElem?_eq_getElem hj, he]))
    refine sq_ret1 Try.results64 ⟨_, ⟨rfl, rfl⟩, Ent.trans ?_ hcl⟩
    repeat' (first | with_reducible exact Ent.refl _ | with_reducible refine Ent.take_eq ?_ ?_ | rfl | with_reducible refine Ent.trans (Ent.drop _ _) ?_)
end Go.Gsl
