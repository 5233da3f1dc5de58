/- The document's records: a master taken. -/
import Derived.Test.YtbmdaiopnnmamaaQrc2Q
namespace Go.Gsl
set_option linter.unusedVariables false
open Go.Proofs

theorem takeK_err (k : Nat) (g : Int → Int) (neg : Bool) (r : List Int) (h : (takeK k g neg r).2.2 ≠ 0) : (takeK k g neg r).1 = 0 ∧ (takeK k g neg r).2.1 = 0 := by
  unfold takeK at h ⊢
  by_cases h1 : r.length < k
  · rw [if_pos h1]; exact ⟨rfl, rfl⟩
  · rw [if_neg h1] at h ⊢
    by_cases h2 : 9223372036854775807 < ofBE ((r.take k).map g) ∨ width (if neg then -ofBE ((r.take k).map g) - 1 else ofBE ((r.take k).map g)) ≠ 1 + k
    · rw [if_pos h2]; exact ⟨rfl, rfl⟩
    · rw [if_neg h2] at h; exact absurd rfl h
theorem takeInt_errs (bs : List Int) (h : (takeInt bs).2.2 ≠ 0) : (takeInt bs).1 = 0 ∧ (takeInt bs).2.1 = 0 := by
  cases bs with
  | nil => exact ⟨rfl, rfl⟩
  | cons x r =>
    rw [takeInt_cons] at h ⊢
    by_cases c1 : 216 < x
    · rw [if_pos c1]; exact ⟨rfl, rfl⟩
    · rw [if_neg c1] at h ⊢
      by_cases c2 : 208 < x
      · rw [if_pos c2] at h ⊢; exact takeK_err _ _ _ _ h
      · rw [if_neg c2] at h ⊢
        by_cases c3 : x < 8
        · rw [if_pos c3] at h ⊢; exact takeK_err _ _ _ _ h
        · rw [if_neg c3] at h; exact absurd rfl h

theorem q1RInt_ok (q k : Nat) (r : HProp) (v : Value) (bs : List Int) (hv : RdB r v bs) (hb : Byt bs) (hl : bs.length ≤ 70368744177664) :
    Spec Try.prog 111 [.pointer (some ⟨q, 0, none⟩)] [q, k] [pts q (.cells [v].toArray 149 (0, 0)), r]
    fun F w Rs' => w = .tuple #[.int .i64 (takeInt bs).1, .int .i64 (takeInt bs).2.2] ∧ ∃ v', RdB r v' (bs.drop (takeInt bs).2.1.toNat) ∧ Rs' = (q, pts q (.cells [v'].toArray 149 (0, 0))) :: (k, r) :: F := by
  haveI := hv.one
  refine spec_of Try.func111 rfl Try.ntmps111 rfl ?_
  intro w0 F
  have htk := takeInt_ok hb
  repeat' (first | with_reducible (first | refine sw_op ?_ | refine sw_op_ ?_) | with_reducible (first | refine sw_nil ?_ | refine sq_then ?_ | refine sc_seq ?_ | refine sc_region ?_ | refine sw_guard_skip ?_ | refine sw_guard_skip_ ?_ | refine sw_guard_run ?_ | refine sc_cond_true ?_ | refine sc_cond_false ?_ | refine sc_ret ?_ | refine sq_then_ret ?_ | refine sc_skip ?_ | refine sc_block ?_ | refine sq_block ?_ | refine sq_block_ret ?_ | refine sc_exit ?_ | refine sq_then_exit ?_ | refine sq_block_exit ?_ | refine sq_block_past ?_ | refine sq_round_ret ?_ | refine sq_round_exit ?_) | fail)
  refine sw_call (q1ParseInt_ok k r v bs hv hb (by omega)) ?_
  rintro _ _ ⟨rfl, rfl⟩
  have h0 : (takeInt bs).2.2 ≠ 0 → (takeInt bs).2.1 = 0 := fun h => (takeInt_errs bs h).2
  generalize takeInt bs = T at *
  obtain ⟨n, K, e⟩ := T
  simp only at h0 htk ⊢
  have hK : 0 ≤ K ∧ K ≤ bs.length := by
    rcases Classical.em (e = 0) with h | h
    · have := htk h; omega
    · have := h0 h; omega
  obtain ⟨K, rfl⟩ : ∃ K' : Nat, K = K' := ⟨K.toNat, by omega⟩
  rw [Int.toNat_natCast]
  cases hv with
  | nil =>
    have hK0 : K = 0 := by simp at hK; omega
    subst hK0
    repeat' (first | with_reducible (first | refine sw_op ?_ | refine sw_op_ ?_) | with_reducible (first | refine sw_nil ?_ | refine sq_then ?_ | refine sc_seq ?_ | refine sc_region ?_ | refine sw_guard_skip ?_ | refine sw_guard_skip_ ?_ | refine sw_guard_run ?_ | refine sc_cond_true ?_ | refine sc_cond_false ?_ | refine sc_ret ?_ | refine sq_then_ret ?_ | refine sc_skip ?_ | refine sc_block ?_ | refine sq_block ?_ | refine sq_block_ret ?_ | refine sc_exit ?_ | refine sq_then_exit ?_ | refine sq_block_exit ?_ | refine sq_block_past ?_ | refine sq_round_ret ?_ | refine sq_round_exit ?_) | fail)
    refine sw_slice_nil (by omega) ⟨rfl, rfl, rfl⟩ ?_
    repeat' (first | with_reducible (first | refine sw_op ?_ | refine sw_op_ ?_) | with_reducible (first | refine sw_nil ?_ | refine sq_then ?_ | refine sc_seq ?_ | refine sc_region ?_ | refine sw_guard_skip ?_ | refine sw_guard_skip_ ?_ | refine sw_guard_run ?_ | refine sc_cond_true ?_ | refine sc_cond_false ?_ | refine sc_ret ?_ | refine sq_then_ret ?_ | refine sc_skip ?_ | refine sc_block ?_ | refine sq_block ?_ | refine sq_block_ret ?_ | refine sc_exit ?_ | refine sq_then_exit ?_ | refine sq_block_exit ?_ | refine sq_block_past ?_ | refine sq_round_ret ?_ | refine sq_round_exit ?_) | fail)
    refine sw_store ?_
    repeat' (first | with_reducible (first | refine sw_op ?_ | refine sw_op_ ?_) | with_reducible (first | refine sw_nil ?_ | refine sq_then ?_ | refine sc_seq ?_ | refine sc_region ?_ | refine sw_guard_skip ?_ | refine sw_guard_skip_ ?_ | refine sw_guard_run ?_ | refine sc_cond_true ?_ | refine sc_cond_false ?_ | refine sc_ret ?_ | refine sq_then_ret ?_ | refine sc_skip ?_ | refine sc_block ?_ | refine sq_block ?_ | refine sq_block_ret ?_ | refine sc_exit ?_ | refine sq_then_exit ?_ | refine sq_block_exit ?_ | refine sq_block_past ?_ | refine sq_round_ret ?_ | refine sq_round_exit ?_) | fail)
    refine sq_ret2 Try.results111 ?_
    refine ⟨_, ⟨rfl, .slice none 0 0, .nil, rfl⟩, ?_⟩
    repeat' (first | with_reducible exact Ent.refl _ | with_reducible refine Ent.take_eq ?_ ?_ | rfl | with_reducible refine Ent.trans (Ent.drop _ _) ?_)
  | row b o c bs hc hr =>
    have ht := RdB.tail hc hr K (by omega)
    repeat' (first | with_reducible (first | refine sw_op ?_ | refine sw_op_ ?_) | with_reducible (first | refine sw_nil ?_ | refine sq_then ?_ | refine sc_seq ?_ | refine sc_region ?_ | refine sw_guard_skip ?_ | refine sw_guard_skip_ ?_ | refine sw_guard_run ?_ | refine sc_cond_true ?_ | refine sc_cond_false ?_ | refine sc_ret ?_ | refine sq_then_ret ?_ | refine sc_skip ?_ | refine sc_block ?_ | refine sq_block ?_ | refine sq_block_ret ?_ | refine sc_exit ?_ | refine sq_then_exit ?_ | refine sq_block_exit ?_ | refine sq_block_past ?_ | refine sq_round_ret ?_ | refine sq_round_exit ?_) | fail)
    refine sw_slice K bs.length c (if c = K then o else o + K) (by omega) ⟨rfl, rfl, rfl, rfl⟩ ?_
    repeat' (first | with_reducible (first | refine sw_op ?_ | refine sw_op_ ?_) | with_reducible (first | refine sw_nil ?_ | refine sq_then ?_ | refine sc_seq ?_ | refine sc_region ?_ | refine sw_guard_skip ?_ | refine sw_guard_skip_ ?_ | refine sw_guard_run ?_ | refine sc_cond_true ?_ | refine sc_cond_false ?_ | refine sc_ret ?_ | refine sq_then_ret ?_ | refine sc_skip ?_ | refine sc_block ?_ | refine sq_block ?_ | refine sq_block_ret ?_ | refine sc_exit ?_ | refine sq_then_exit ?_ | refine sq_block_exit ?_ | refine sq_block_past ?_ | refine sq_round_ret ?_ | refine sq_round_exit ?_) | fail)
    refine sw_store ?_
    repeat' (first | with_reducible (first | refine sw_op ?_ | refine sw_op_ ?_) | with_reducible (first | refine sw_nil ?_ | refine sq_then ?_ | refine sc_seq ?_ | refine sc_region ?_ | refine sw_guard_skip ?_ | refine sw_guard_skip_ ?_ | refine sw_guard_run ?_ | refine sc_cond_true ?_ | refine sc_cond_false ?_ | refine sc_ret ?_ | refine sq_then_ret ?_ | refine sc_skip ?_ | refine sc_block ?_ | refine sq_block ?_ | refine sq_block_ret ?_ | refine sc_exit ?_ | refine sq_then_exit ?_ | refine sq_block_exit ?_ | refine sq_block_past ?_ | refine sq_round_ret ?_ | refine sq_round_exit ?_) | fail)
    refine sq_ret2 Try.results111 ?_
    refine ⟨_, ⟨rfl, _, ht, rfl⟩, ?_⟩
    repeat' (first | with_reducible exact Ent.refl _ | with_reducible refine Ent.take_eq ?_ ?_ | rfl | with_reducible refine Ent.trans (Ent.drop _ _) ?_)

theorem q3TNum_ok (p q k : Nat) (r : HProp) (v : Value) (bs : List Int) (st : Nat × Int) (hv : RdB r v (bs.drop st.1)) (hb : Byt bs) (hl : bs.length ≤ 70368744177664) :
    Spec Try.prog 100 [.pointer (some ⟨p, 0, none⟩)] [p, q, k] [pts p (.cells [.pointer (some ⟨q, 0, none⟩), .int .i64 st.2].toArray 151 (0, 0)), pts q (.cells [v].toArray 149 (0, 0)), r]
    fun F w Rs' => w = .int .i64 (num bs st).1 ∧ ∃ v', RdB r v' (bs.drop (num bs st).2.1) ∧ Rs' = (p, pts p (.cells [.pointer (some ⟨q, 0, none⟩), .int .i64 (num bs st).2.2].toArray 151 (0, 0))) :: (q, pts q (.cells [v'].toArray 149 (0, 0))) :: (k, r) :: F := by
  haveI := hv.one
  refine spec_of Try.func100 rfl Try.ntmps100 rfl ?_
  intro w0 F
  have hbd : Byt (bs.drop st.1) := fun x hx => hb x (List.mem_of_mem_drop hx)
  unfold num
  repeat' (first | with_reducible (first | refine sw_op ?_ | refine sw_op_ ?_) | with_reducible (first | refine sw_nil ?_ | refine sq_then ?_ | refine sc_seq ?_ | refine sc_region ?_ | refine sw_guard_skip ?_ | refine sw_guard_skip_ ?_ | refine sw_guard_run ?_ | refine sc_cond_true ?_ | refine sc_cond_false ?_ | refine sc_ret ?_ | refine sq_then_ret ?_ | refine sc_skip ?_ | refine sc_block ?_ | refine sq_block ?_ | refine sq_block_ret ?_ | refine sc_exit ?_ | refine sq_then_exit ?_ | refine sq_block_exit ?_ | refine sq_block_past ?_ | refine sq_round_ret ?_ | refine sq_round_exit ?_) | (with_reducible refine sc_cond (fun h => ?_) (fun h => ?_)) <;> (try (exfalso; first | contradiction | omega | exact h Iff.rfl)) | fail)
  · rw [if_pos h]
    refine sq_ret1 Try.results100 ?_
    exact ⟨_, ⟨rfl, v, hv, rfl⟩, Ent.refl _⟩
  rw [if_neg h]
  refine sw_call (q1RInt_ok q k r v (bs.drop st.1) hv hbd (by rw [List.length_drop]; omega)) ?_
  rintro _ _ ⟨rfl, v', hv', rfl⟩
  haveI := hv'.one
  have h0 : (takeInt (bs.drop st.1)).2.2 ≠ 0 → (takeInt (bs.drop st.1)).2.1.toNat = 0 := fun h => by rw [(takeInt_errs _ h).2]; rfl
  have h1 : (takeInt (bs.drop st.1)).2.2 ≠ 0 → (takeInt (bs.drop st.1)).1 = 0 := fun h => (takeInt_errs _ h).1
  generalize takeInt (bs.drop st.1) = T at *
  obtain ⟨n, K, e⟩ := T
  simp only at h0 h1 hv' ⊢
  repeat' (first | with_reducible (first | refine sw_op ?_ | refine sw_op_ ?_) | with_reducible (first | refine sw_nil ?_ | refine sq_then ?_ | refine sc_seq ?_ | refine sc_region ?_ | refine sw_guard_skip ?_ | refine sw_guard_skip_ ?_ | refine sw_guard_run ?_ | refine sc_cond_true ?_ | refine sc_cond_false ?_ | refine sc_ret ?_ | refine sq_then_ret ?_ | refine sc_skip ?_ | refine sc_block ?_ | refine sq_block ?_ | refine sq_block_ret ?_ | refine sc_exit ?_ | refine sq_then_exit ?_ | refine sq_block_exit ?_ | refine sq_block_past ?_ | refine sq_round_ret ?_ | refine sq_round_exit ?_) | fail)
  refine sw_store ?_
  repeat' (first | with_reducible (first | refine sw_op ?_ | refine sw_op_ ?_) | with_reducible (first | refine sw_nil ?_ | refine sq_then ?_ | refine sc_seq ?_ | refine sc_region ?_ | refine sw_guard_skip ?_ | refine sw_guard_skip_ ?_ | refine sw_guard_run ?_ | refine sc_cond_true ?_ | refine sc_cond_false ?_ | refine sc_ret ?_ | refine sq_then_ret ?_ | refine sc_skip ?_ | refine sc_block ?_ | refine sq_block ?_ | refine sq_block_ret ?_ | refine sc_exit ?_ | refine sq_then_exit ?_ | refine sq_block_exit ?_ | refine sq_block_past ?_ | refine sq_round_ret ?_ | refine sq_round_exit ?_) | fail)
  refine sq_ret1 Try.results100 ?_
  rw [List.drop_drop] at hv'
  rcases Classical.em (e = 0) with he | he
  · subst he
    rw [if_neg (by simp)]
    refine ⟨_, ⟨rfl, v', hv', rfl⟩, ?_⟩
    repeat' (first | with_reducible exact Ent.refl _ | with_reducible refine Ent.take_eq ?_ ?_ | rfl | with_reducible refine Ent.trans (Ent.drop _ _) ?_)
  · rw [if_pos he]
    rw [h0 he, Nat.add_zero] at hv'
    rw [h1 he]
    refine ⟨_, ⟨rfl, v', hv', rfl⟩, ?_⟩
    repeat' (first | with_reducible exact Ent.refl _ | with_reducible refine Ent.take_eq ?_ ?_ | rfl | with_reducible refine Ent.trans (Ent.drop _ _) ?_)
end Go.Gsl
