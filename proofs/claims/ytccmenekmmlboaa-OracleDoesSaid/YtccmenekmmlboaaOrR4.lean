/- The oracle: what is pending; Clone. -/
import Derived.Test.YtccmenekmmlboaaOrR3
import Derived.Test.YtccmenekmmlboaaGsl15
namespace Go.Gsl
set_option linter.unusedVariables false
open Go.Proofs Go.RowKit

/-- what Pending's loop keeps: those that are pending below 't' -/
structure PenJ (s : Or) (t : Int) (L : List Int) : Prop where
  lo : s.pub < t
  hi : t ≤ s.last + 1
  lt : L.Pairwise (· < ·)
  mem : ∀ j, j ∈ L ↔ s.pub < j ∧ j < t ∧ s.A j = false
theorem PenJ.start {s : Or} (hw : s.Wf) : PenJ s (s.pub + 1) [] := ⟨by omega, by have := hw.pl; omega, List.Pairwise.nil, fun j => by
  constructor
  · intro h; cases h
  · rintro ⟨a, b, _⟩; omega⟩
theorem PenJ.take {s : Or} {t : Int} {L : List Int} (h : PenJ s t L) (ht : t ≤ s.last) (ha : s.A t = false) : PenJ s (t + 1) (L ++ [t]) := ⟨by have := h.lo; omega, by omega, List.pairwise_append.2 ⟨h.lt, List.pairwise_singleton _ _, fun a ha b hb => by
    have := (h.mem a).1 ha
    rw [List.mem_singleton.1 hb]; omega⟩, fun j => by
  have h1 := h.mem j
  have h2 := h.lo
  rw [List.mem_append, List.mem_singleton, h1]
  constructor
  · rintro (⟨a, b, c⟩ | rfl)
    · exact ⟨a, by omega, c⟩
    · exact ⟨h2, by omega, ha⟩
  · rintro ⟨a, b, c⟩
    by_cases hj : j = t
    · exact .inr hj
    · exact .inl ⟨a, by omega, c⟩⟩
theorem PenJ.skip {s : Or} {t : Int} {L : List Int} (h : PenJ s t L) (ht : t ≤ s.last) (ha : s.A t = true) : PenJ s (t + 1) L := ⟨by have := h.lo; omega, by omega, h.lt, fun j => by
  have h1 := h.mem j
  rw [h1]
  constructor
  · rintro ⟨a, b, c⟩; exact ⟨a, by omega, c⟩
  · rintro ⟨a, b, c⟩
    have : j ≠ t := fun he => by rw [he, ha] at c; cases c
    exact ⟨a, by omega, c⟩⟩
theorem PenJ.done {s : Or} {t : Int} {L : List Int} (h : PenJ s t L) (ht : s.last < t) : PendL s L := ⟨h.lt, fun j => by
  have h1 := h.mem j
  have h2 := h.hi
  rw [h1]
  constructor
  · rintro ⟨a, b, c⟩; exact ⟨a, by omega, c⟩
  · rintro ⟨a, b, c⟩; exact ⟨a, by omega, c⟩⟩
theorem PenJ.few {s : Or} {t : Int} {L : List Int} (hw : s.Wf) (h : PenJ s t L) : L.length ≤ 1099511627776 := by
  have h1 := lt_len L s.pub s.last hw.pl h.lt fun j hj => by have := (h.mem j).1 hj; have := h.hi; omega
  have h2 := hw.p0
  have h3 := hw.lm
  omega

theorem f59_or (p : Nat) (s : Or) : Spec Try.prog 59 [.pointer (some ⟨p, 0, none⟩)] [p] [OR p s] fun F v Rs' => v = .bool false ∧ Rs' = (p, OR p s) :: F := by
  refine spec_of Try.func59 rfl Try.ntmps59 rfl ?_
  intro w0 F
  refine OR.sc (p := p) (s := s) fun hw l q m1 m2 => ?_
  unfold ORl
  repeat' (first | with_reducible refine sw_op ?_ | with_reducible refine sw_op_ ?_ | with_reducible refine sw_nil ?_ | with_reducible refine sq_then ?_ | with_reducible refine sc_seq ?_ | with_reducible refine sc_region ?_ | with_reducible refine sw_guard_skip ?_ | with_reducible refine sw_guard_skip_ ?_ | with_reducible refine sw_guard_run ?_ | with_reducible refine sc_cond_true ?_ | with_reducible refine sc_cond_false ?_ | with_reducible refine sc_ret ?_ | with_reducible refine sq_then_ret ?_ | with_reducible refine sc_skip ?_ | with_reducible refine sc_block ?_ | with_reducible refine sq_block ?_ | with_reducible refine sq_block_ret ?_ | with_reducible refine sc_exit ?_ | with_reducible refine sq_then_exit ?_ | with_reducible refine sq_block_exit ?_ | with_reducible refine sq_block_past ?_ | with_reducible refine sq_round_ret ?_ | with_reducible refine sq_round_exit ?_ | (with_reducible refine sc_cond (fun h => ?_) (fun h => ?_)) <;> (try (exfalso; first | contradiction | omega | exact h Iff.rfl)) | (with_reducible refine sw_guard_split (fun h => ?_) (fun h => ?_)) <;> (try (exfalso; first | contradiction | omega | exact h Iff.rfl)) | (with_reducible refine sw_pick (fun h => ?_) (fun h => ?_)) <;> (try (exfalso; first | contradiction | omega | exact h Iff.rfl)) | fail)
  refine sq_ret1 Try.results59 ⟨_, ⟨rfl, rfl⟩, Ent.trans (B := ORl p s l q m1 m2 F) ?_ (OR.close hw)⟩
  unfold ORl
  repeat' (first | with_reducible exact Ent.refl _ | with_reducible refine Ent.take_eq ?_ ?_ | rfl | with_reducible refine Ent.trans (Ent.drop _ _) ?_)

set_option maxHeartbeats 1000000 in
theorem f33_ok (p : Nat) (s : Or) : Spec Try.prog 33 [.pointer (some ⟨p, 0, none⟩)] [p] [OR p s] fun F v Rs' => ∃ bx kv rv a c P, (PendL s P ∧ (0 < P.length → ∃ b o, a = some ⟨b, o, none⟩) ∧ Reads rv a (P.map (Value.int .i64))) ∧ v = .func (.func 96) #[] #[.pointer (some ⟨bx, 0, none⟩)] ∧ Rs' = (bx, pts bx (jbx a P.length c)) :: (kv, rv) :: (p, OR p s) :: F := by
  refine spec_of Try.func33 rfl Try.ntmps33 rfl ?_
  intro w0 F
  refine OR.scwf (p := p) (s := s) fun hw => ?_
  have hp0 := hw.p0
  have hpl := hw.pl
  have hlm := hw.lm
  repeat' (first | with_reducible refine sw_i64 (by omega) ?_ | with_reducible refine sw_op ?_ | with_reducible refine sw_op_ ?_ | ((with_reducible refine sw_call (f59_or p s) ?_); rintro _ _ ⟨rfl, rfl⟩) | ((with_reducible refine sw_call (f18_ok p s) ?_); rintro _ _ ⟨rfl, rfl⟩) | with_reducible refine sw_nil ?_ | with_reducible refine sq_then ?_ | with_reducible refine sc_seq ?_ | with_reducible refine sc_region ?_ | with_reducible refine sw_guard_skip ?_ | with_reducible refine sw_guard_skip_ ?_ | with_reducible refine sw_guard_run ?_ | with_reducible refine sc_cond_true ?_ | with_reducible refine sc_cond_false ?_ | with_reducible refine sc_ret ?_ | with_reducible refine sq_then_ret ?_ | with_reducible refine sc_skip ?_ | with_reducible refine sc_block ?_ | with_reducible refine sq_block ?_ | with_reducible refine sq_block_ret ?_ | with_reducible refine sc_exit ?_ | with_reducible refine sq_then_exit ?_ | with_reducible refine sq_block_exit ?_ | with_reducible refine sq_block_past ?_ | with_reducible refine sq_round_ret ?_ | with_reducible refine sq_round_exit ?_ | (with_reducible refine sc_cond (fun h => ?_) (fun h => ?_)) <;> (try (exfalso; first | contradiction | omega | exact h Iff.rfl)) | (with_reducible refine sw_guard_split (fun h => ?_) (fun h => ?_)) <;> (try (exfalso; first | contradiction | omega | exact h Iff.rfl)) | (with_reducible refine sw_pick (fun h => ?_) (fun h => ?_)) <;> (try (exfalso; first | contradiction | omega | exact h Iff.rfl)) | fail)
  refine sc_loop (α := { x : Int × List Int × Option (Nat × List Value) // PenJ s x.1 x.2.1 ∧ (x.2.2 = none → x.2.1 = []) }) (fun x => [(0, .pointer (some ⟨p, 0, none⟩)), (3, jV x.1.2.1 x.1.2.2), (4, .int .i64 x.1.1)])
    (fun x => jR x.1.2.1 ((p, OR p s) :: F) x.1.2.2) (fun x => (s.last + 1 - x.1.1).toNat) ⟨(s.pub + 1, [], none), PenJ.start hw, fun _ => rfl⟩ ?_ ?_ ?_
  · repeat' (first | exact says_nil | refine says_cons rfl ?_ | refine says_cons (by simp) ?_)
  · exact Ent.refl _
  rintro ⟨⟨t, L, y⟩, hJ, hn⟩ e
  simp only at hJ hn
  have hlo := hJ.lo
  have hhi := hJ.hi
  have hfew := hJ.few hw
  simp only [List.cons_append, List.nil_append]
  cases y with
  | none =>
    obtain rfl : L = [] := hn rfl
    dsimp only [jV, jR]
    repeat' (first | with_reducible refine sw_i64 (by omega) ?_ | with_reducible refine sw_op ?_ | with_reducible refine sw_op_ ?_ | ((with_reducible refine sw_call (f19_ok p s) ?_); rintro _ _ ⟨rfl, rfl⟩) | with_reducible refine sw_nil ?_ | with_reducible refine sq_then ?_ | with_reducible refine sc_seq ?_ | with_reducible refine sc_region ?_ | with_reducible refine sw_guard_skip ?_ | with_reducible refine sw_guard_skip_ ?_ | with_reducible refine sw_guard_run ?_ | with_reducible refine sc_cond_true ?_ | with_reducible refine sc_cond_false ?_ | with_reducible refine sc_ret ?_ | with_reducible refine sq_then_ret ?_ | with_reducible refine sc_skip ?_ | with_reducible refine sc_block ?_ | with_reducible refine sq_block ?_ | with_reducible refine sq_block_ret ?_ | with_reducible refine sc_exit ?_ | with_reducible refine sq_then_exit ?_ | with_reducible refine sq_block_exit ?_ | with_reducible refine sq_block_past ?_ | with_reducible refine sq_round_ret ?_ | with_reducible refine sq_round_exit ?_ | (with_reducible refine sc_cond (fun h => ?_) (fun h => ?_)) <;> (try (exfalso; first | contradiction | omega | exact h Iff.rfl)) | fail)
    focus
      refine OR.sw (p := p) (s := s) fun _ l q m1 m2 => ?_
      unfold ORl
      repeat' (first | with_reducible refine sw_i64 (by omega) ?_ | with_reducible refine sw_op ?_ | with_reducible refine sw_op_ ?_ | with_reducible refine sw_nil ?_ | with_reducible refine sq_then ?_ | with_reducible refine sc_seq ?_ | with_reducible refine sc_region ?_ | with_reducible refine sw_guard_skip ?_ | with_reducible refine sw_guard_skip_ ?_ | with_reducible refine sw_guard_run ?_ | with_reducible refine sc_cond_true ?_ | with_reducible refine sc_cond_false ?_ | with_reducible refine sc_ret ?_ | with_reducible refine sq_then_ret ?_ | with_reducible refine sc_skip ?_ | with_reducible refine sc_block ?_ | with_reducible refine sq_block ?_ | with_reducible refine sq_block_ret ?_ | with_reducible refine sc_exit ?_ | with_reducible refine sq_then_exit ?_ | with_reducible refine sq_block_exit ?_ | with_reducible refine sq_block_past ?_ | with_reducible refine sq_round_ret ?_ | with_reducible refine sq_round_exit ?_ | (with_reducible refine sc_cond (fun h => ?_) (fun h => ?_)) <;> (try (exfalso; first | contradiction | omega | exact h Iff.rfl)) | (with_reducible refine sw_guard_split (fun h => ?_) (fun h => ?_)) <;> (try (exfalso; first | contradiction | omega | exact h Iff.rfl)) | (with_reducible refine sw_pick (fun h => ?_) (fun h => ?_)) <;> (try (exfalso; first | contradiction | omega | exact h Iff.rfl)) | fail)
      · have ha : s.A t = false := by simpa using h
        refine sw_buildSlice [.int .i64 t] (by omega) rfl fun b1 => ?_
        refine sw_append_nil (src := [Value.int .i64 t]) src_pts0 ⟨by simp, rfl, by simp, by simp⟩ fun b2 r2 => ?_
        repeat' (first | with_reducible refine sw_i64 (by omega) ?_ | with_reducible refine sw_op ?_ | with_reducible refine sw_op_ ?_ | with_reducible refine sw_nil ?_ | with_reducible refine sq_then ?_ | with_reducible refine sc_seq ?_ | with_reducible refine sc_region ?_ | with_reducible refine sw_guard_skip ?_ | with_reducible refine sw_guard_skip_ ?_ | with_reducible refine sw_guard_run ?_ | with_reducible refine sc_cond_true ?_ | with_reducible refine sc_cond_false ?_ | with_reducible refine sc_ret ?_ | with_reducible refine sq_then_ret ?_ | with_reducible refine sc_skip ?_ | with_reducible refine sc_block ?_ | with_reducible refine sq_block ?_ | with_reducible refine sq_block_ret ?_ | with_reducible refine sc_exit ?_ | with_reducible refine sq_then_exit ?_ | with_reducible refine sq_block_exit ?_ | with_reducible refine sq_block_past ?_ | with_reducible refine sq_round_ret ?_ | with_reducible refine sq_round_exit ?_ | (with_reducible refine sc_cond (fun h => ?_) (fun h => ?_)) <;> (try (exfalso; first | contradiction | omega | exact h Iff.rfl)) | fail)
        refine sq_round ⟨(t + 1, [] ++ [t], some (b2, r2)), hJ.take (by omega) ha, fun h => by cases h⟩ ?_ ?_ ?_
        · show (s.last + 1 - (t + 1)).toNat < (s.last + 1 - t).toNat
          omega
        · repeat' (first | exact says_nil | refine says_cons rfl ?_ | refine says_cons (by simp) ?_)
        · refine Ent.trans (B := (b2, pts b2 (.cells ([Value.int .i64 t] ++ r2).toArray 2 (0, 0))) :: ORl p s l q m1 m2 F) ?_ (Ent.cons _ (OR.close hw))
          unfold ORl
          repeat' (first | with_reducible exact Ent.refl _ | with_reducible refine Ent.take_eq ?_ ?_ | rfl | with_reducible refine Ent.trans (Ent.drop _ _) ?_)
      · have ha : s.A t = true := by simpa using h
        refine sq_round ⟨(t + 1, [], none), hJ.skip (by omega) ha, fun _ => rfl⟩ ?_ ?_ ?_
        · show (s.last + 1 - (t + 1)).toNat < (s.last + 1 - t).toNat
          omega
        · repeat' (first | exact says_nil | refine says_cons rfl ?_ | refine says_cons (by simp) ?_)
        · refine Ent.trans (B := ORl p s l q m1 m2 F) ?_ (OR.close hw)
          unfold ORl
          repeat' (first | with_reducible exact Ent.refl _ | with_reducible refine Ent.take_eq ?_ ?_ | rfl | with_reducible refine Ent.trans (Ent.drop _ _) ?_)
    refine sw_ent (Ent.dup_take (k := p) (k' := p + 1) (r' := fun _ => True) fun _ _ => trivial) ?_
    repeat' (first | with_reducible refine sw_op ?_ | with_reducible refine sw_op_ ?_ | ((with_reducible refine sw_call (valsJ_ok none 0 0) ?_); rintro _ _ ⟨bx, rfl, rfl⟩) | with_reducible refine sw_nil ?_ | with_reducible refine sq_then ?_ | with_reducible refine sc_seq ?_ | with_reducible refine sc_region ?_ | with_reducible refine sw_guard_skip ?_ | with_reducible refine sw_guard_skip_ ?_ | with_reducible refine sw_guard_run ?_ | with_reducible refine sc_cond_true ?_ | with_reducible refine sc_cond_false ?_ | with_reducible refine sc_ret ?_ | with_reducible refine sq_then_ret ?_ | with_reducible refine sc_skip ?_ | with_reducible refine sc_block ?_ | with_reducible refine sq_block ?_ | with_reducible refine sq_block_ret ?_ | with_reducible refine sc_exit ?_ | with_reducible refine sq_then_exit ?_ | with_reducible refine sq_block_exit ?_ | with_reducible refine sq_block_past ?_ | with_reducible refine sq_round_ret ?_ | with_reducible refine sq_round_exit ?_ | fail)
    refine sq_ret1 Try.results33 ⟨_, ⟨bx, p + 1, fun _ => True, none, 0, [], ⟨hJ.done (by omega), by simp, reads_nil _ _⟩, rfl, rfl⟩, ?_⟩
    repeat' (first | with_reducible exact Ent.refl _ | with_reducible refine Ent.take_eq ?_ ?_ | rfl | with_reducible refine Ent.trans (Ent.drop _ _) ?_)
  | some y =>
    obtain ⟨b, r⟩ := y
    dsimp only [jV, jR]
    repeat' (first | with_reducible refine sw_i64 (by omega) ?_ | with_reducible refine sw_op ?_ | with_reducible refine sw_op_ ?_ | ((with_reducible refine sw_call (f19_ok p s) ?_); rintro _ _ ⟨rfl, rfl⟩) | with_reducible refine sw_nil ?_ | with_reducible refine sq_then ?_ | with_reducible refine sc_seq ?_ | with_reducible refine sc_region ?_ | with_reducible refine sw_guard_skip ?_ | with_reducible refine sw_guard_skip_ ?_ | with_reducible refine sw_guard_run ?_ | with_reducible refine sc_cond_true ?_ | with_reducible refine sc_cond_false ?_ | with_reducible refine sc_ret ?_ | with_reducible refine sq_then_ret ?_ | with_reducible refine sc_skip ?_ | with_reducible refine sc_block ?_ | with_reducible refine sq_block ?_ | with_reducible refine sq_block_ret ?_ | with_reducible refine sc_exit ?_ | with_reducible refine sq_then_exit ?_ | with_reducible refine sq_block_exit ?_ | with_reducible refine sq_block_past ?_ | with_reducible refine sq_round_ret ?_ | with_reducible refine sq_round_exit ?_ | (with_reducible refine sc_cond (fun h => ?_) (fun h => ?_)) <;> (try (exfalso; first | contradiction | omega | exact h Iff.rfl)) | fail)
    focus
      refine OR.sw (p := p) (s := s) fun _ l q m1 m2 => ?_
      unfold ORl
      repeat' (first | with_reducible refine sw_i64 (by omega) ?_ | with_reducible refine sw_op ?_ | with_reducible refine sw_op_ ?_ | with_reducible refine sw_nil ?_ | with_reducible refine sq_then ?_ | with_reducible refine sc_seq ?_ | with_reducible refine sc_region ?_ | with_reducible refine sw_guard_skip ?_ | with_reducible refine sw_guard_skip_ ?_ | with_reducible refine sw_guard_run ?_ | with_reducible refine sc_cond_true ?_ | with_reducible refine sc_cond_false ?_ | with_reducible refine sc_ret ?_ | with_reducible refine sq_then_ret ?_ | with_reducible refine sc_skip ?_ | with_reducible refine sc_block ?_ | with_reducible refine sq_block ?_ | with_reducible refine sq_block_ret ?_ | with_reducible refine sc_exit ?_ | with_reducible refine sq_then_exit ?_ | with_reducible refine sq_block_exit ?_ | with_reducible refine sq_block_past ?_ | with_reducible refine sq_round_ret ?_ | with_reducible refine sq_round_exit ?_ | (with_reducible refine sc_cond (fun h => ?_) (fun h => ?_)) <;> (try (exfalso; first | contradiction | omega | exact h Iff.rfl)) | (with_reducible refine sw_guard_split (fun h => ?_) (fun h => ?_)) <;> (try (exfalso; first | contradiction | omega | exact h Iff.rfl)) | (with_reducible refine sw_pick (fun h => ?_) (fun h => ?_)) <;> (try (exfalso; first | contradiction | omega | exact h Iff.rfl)) | fail)
      · have ha : s.A t = false := by simpa using h
        refine sw_buildSlice [.int .i64 t] (by omega) rfl fun b1 => ?_
        refine sw_append (src := [Value.int .i64 t]) src_pts0 (by simp [Value.oneCell']) ⟨by omega, by rw [List.length_append, List.length_map], rfl, by simp only [List.length_singleton]; omega, by simp only [List.length_singleton]; omega⟩ fun b2 r2 => ?_
        rw [List.take_left' (by rw [List.length_map])]
        repeat' (first | with_reducible refine sw_i64 (by omega) ?_ | with_reducible refine sw_op ?_ | with_reducible refine sw_op_ ?_ | with_reducible refine sw_nil ?_ | with_reducible refine sq_then ?_ | with_reducible refine sc_seq ?_ | with_reducible refine sc_region ?_ | with_reducible refine sw_guard_skip ?_ | with_reducible refine sw_guard_skip_ ?_ | with_reducible refine sw_guard_run ?_ | with_reducible refine sc_cond_true ?_ | with_reducible refine sc_cond_false ?_ | with_reducible refine sc_ret ?_ | with_reducible refine sq_then_ret ?_ | with_reducible refine sc_skip ?_ | with_reducible refine sc_block ?_ | with_reducible refine sq_block ?_ | with_reducible refine sq_block_ret ?_ | with_reducible refine sc_exit ?_ | with_reducible refine sq_then_exit ?_ | with_reducible refine sq_block_exit ?_ | with_reducible refine sq_block_past ?_ | with_reducible refine sq_round_ret ?_ | with_reducible refine sq_round_exit ?_ | (with_reducible refine sc_cond (fun h => ?_) (fun h => ?_)) <;> (try (exfalso; first | contradiction | omega | exact h Iff.rfl)) | fail)
        refine sq_round ⟨(t + 1, L ++ [t], some (b2, r2)), hJ.take (by omega) ha, fun h => by cases h⟩ ?_ ?_ ?_
        · show (s.last + 1 - (t + 1)).toNat < (s.last + 1 - t).toNat
          omega
        · dsimp only [jV]
          rw [List.length_append]
          repeat' (first | exact says_nil | refine says_cons rfl ?_ | refine says_cons (by simp) ?_)
        · refine Ent.trans (B := (b2, pts b2 (.cells ((L ++ [t]).map (Value.int .i64) ++ r2).toArray 2 (0, 0))) :: ORl p s l q m1 m2 F) ?_ (Ent.cons _ (OR.close hw))
          rw [List.map_append]
          unfold ORl
          repeat' (first | with_reducible exact Ent.refl _ | with_reducible refine Ent.take_eq ?_ ?_ | rfl | with_reducible refine Ent.trans (Ent.drop _ _) ?_)
      · have ha : s.A t = true := by simpa using h
        refine sq_round ⟨(t + 1, L, some (b, r)), hJ.skip (by omega) ha, fun h => by cases h⟩ ?_ ?_ ?_
        · show (s.last + 1 - (t + 1)).toNat < (s.last + 1 - t).toNat
          omega
        · repeat' (first | exact says_nil | refine says_cons rfl ?_ | refine says_cons (by simp) ?_)
        · refine Ent.trans (B := (b, pts b (.cells (L.map (Value.int .i64) ++ r).toArray 2 (0, 0))) :: ORl p s l q m1 m2 F) ?_ (Ent.cons _ (OR.close hw))
          unfold ORl
          repeat' (first | with_reducible exact Ent.refl _ | with_reducible refine Ent.take_eq ?_ ?_ | rfl | with_reducible refine Ent.trans (Ent.drop _ _) ?_)
    repeat' (first | with_reducible refine sw_op ?_ | with_reducible refine sw_op_ ?_ | ((with_reducible refine sw_call (valsJ_ok _ _ _) ?_); rintro _ _ ⟨bx, rfl, rfl⟩) | with_reducible refine sw_nil ?_ | with_reducible refine sq_then ?_ | with_reducible refine sc_seq ?_ | with_reducible refine sc_region ?_ | with_reducible refine sw_guard_skip ?_ | with_reducible refine sw_guard_skip_ ?_ | with_reducible refine sw_guard_run ?_ | with_reducible refine sc_cond_true ?_ | with_reducible refine sc_cond_false ?_ | with_reducible refine sc_ret ?_ | with_reducible refine sq_then_ret ?_ | with_reducible refine sc_skip ?_ | with_reducible refine sc_block ?_ | with_reducible refine sq_block ?_ | with_reducible refine sq_block_ret ?_ | with_reducible refine sc_exit ?_ | with_reducible refine sq_then_exit ?_ | with_reducible refine sq_block_exit ?_ | with_reducible refine sq_block_past ?_ | with_reducible refine sq_round_ret ?_ | with_reducible refine sq_round_exit ?_ | fail)
    refine sq_ret1 Try.results33 ⟨_, ⟨bx, b, pts b (.cells (L.map (Value.int .i64) ++ r).toArray 2 (0, 0)), some ⟨b, 0, none⟩, L.length + r.length, L, ⟨hJ.done (by omega), fun _ => ⟨_, _, rfl⟩, reads_pts fun j v hj => by rw [Nat.zero_add, List.getElem?_append_left (List.getElem?_eq_some_iff.1 hj).1]; exact hj⟩, rfl, rfl⟩, ?_⟩
    repeat' (first | with_reducible exact Ent.refl _ | with_reducible refine Ent.take_eq ?_ ?_ | rfl | with_reducible refine Ent.trans (Ent.drop _ _) ?_)

instance : Mcl Try.prog 95 where
  out := run_callFunc_extern Try.func95 (by kernel_rfl) (by kernel_rfl) (by kernel_rfl) (e := Extern.MapsClone.clone) (by kernel_rfl)

theorem f68_ok (m : Nat) (f : Int → Option Value) : Spec Try.prog 68 [.map (some m)] [m] [MapI .i64 m f] fun F v Rs' => ∃ m', v = .map (some m') ∧ Rs' = (m', MapI .i64 m' f) :: (m, MapI .i64 m f) :: F := by
  refine spec_of Try.func68 rfl Try.ntmps68 rfl ?_
  intro w0 F
  repeat' (first | with_reducible refine sw_op ?_ | with_reducible refine sw_op_ ?_ | with_reducible refine sw_nil ?_ | with_reducible refine sq_then ?_ | with_reducible refine sc_seq ?_ | with_reducible refine sc_region ?_ | with_reducible refine sw_guard_skip ?_ | with_reducible refine sw_guard_skip_ ?_ | with_reducible refine sw_guard_run ?_ | with_reducible refine sc_cond_true ?_ | with_reducible refine sc_cond_false ?_ | with_reducible refine sc_ret ?_ | with_reducible refine sq_then_ret ?_ | with_reducible refine sc_skip ?_ | with_reducible refine sc_block ?_ | with_reducible refine sq_block ?_ | with_reducible refine sq_block_ret ?_ | with_reducible refine sc_exit ?_ | with_reducible refine sq_then_exit ?_ | with_reducible refine sq_block_exit ?_ | with_reducible refine sq_block_past ?_ | with_reducible refine sq_round_ret ?_ | with_reducible refine sq_round_exit ?_ | (with_reducible refine sc_cond (fun h => ?_) (fun h => ?_)) <;> (try (exfalso; first | contradiction | omega | exact h Iff.rfl)) | fail)
  refine sw_mclone fun m' => ?_
  repeat' (first | with_reducible refine sw_op ?_ | with_reducible refine sw_op_ ?_ | with_reducible refine sw_nil ?_ | with_reducible refine sq_then ?_ | with_reducible refine sc_seq ?_ | with_reducible refine sc_region ?_ | with_reducible refine sw_guard_skip ?_ | with_reducible refine sw_guard_skip_ ?_ | with_reducible refine sw_guard_run ?_ | with_reducible refine sc_cond_true ?_ | with_reducible refine sc_cond_false ?_ | with_reducible refine sc_ret ?_ | with_reducible refine sq_then_ret ?_ | with_reducible refine sc_skip ?_ | with_reducible refine sc_block ?_ | with_reducible refine sq_block ?_ | with_reducible refine sq_block_ret ?_ | with_reducible refine sc_exit ?_ | with_reducible refine sq_then_exit ?_ | with_reducible refine sq_block_exit ?_ | with_reducible refine sq_block_past ?_ | with_reducible refine sq_round_ret ?_ | with_reducible refine sq_round_exit ?_ | fail)
  refine sq_ret1 Try.results68 ?_
  exact ⟨_, ⟨m', rfl, rfl⟩, Ent.refl _⟩
end Go.Gsl
