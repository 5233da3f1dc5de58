/- The document's masters on the document's disk. -/
import Derived.Test.YtbmdaiopnnmamaaGreatGQ
import Derived.Test.YtbmdaiopnnmamaaGreatGM
import Derived.Test.YtbmdaiopnnmamaaGreatMstNQ
import Derived.Test.YtbmdaiopnnmamaaGreatGF
namespace Go.Gsl
set_option linter.unusedVariables false
open Go.Proofs Go.RowKit

theorem parse_err {bs : List Int} (h : (parseM bs).2 ≠ 0) : parseM bs = (Ms.zero, 200) := by
  unfold parseM at h ⊢
  by_cases c1 : bs.length ≠ 512
  · rw [if_pos c1]
  · rw [if_neg c1] at h ⊢
    by_cases c2 : (unfr bs).1 ≠ 0
    · rw [if_pos c2]
    · rw [if_neg c2] at h ⊢
      by_cases c3 : (takeM (unfr bs).2.1).2 ≠ 0
      · rw [if_pos c3]
      · rw [if_neg c3] at h ⊢
        by_cases c4 : ∀ x ∈ bs.drop (unfr bs).2.2.toNat, x = 0
        · rw [if_pos c4] at h; exact absurd rfl h
        · rw [if_neg c4]
theorem take_Ok {us : List Int} (h : (takeM us).2 = 0) : (takeM us).1.Ok := by
  unfold takeM at h ⊢
  by_cases c : takeEr us ≠ 0
  · rw [if_pos c] at h; exact absurd h c
  · rw [if_neg c]
    have h0 : takeEr us = 0 := by simpa using c
    unfold takeEr endE at h0
    split at h0
    · rename_i h1; exact absurd h0 h1
    · split at h0
      · cases h0
      · unfold Ms.chk at h0
        split at h0
        · assumption
        · cases h0
theorem parse_Ok {bs : List Int} (h : (parseM bs).2 = 0) : (parseM bs).1.Ok := by
  unfold parseM at h ⊢
  by_cases c1 : bs.length ≠ 512
  · rw [if_pos c1] at h; cases h
  · rw [if_neg c1] at h ⊢
    by_cases c2 : (unfr bs).1 ≠ 0
    · rw [if_pos c2] at h; cases h
    · rw [if_neg c2] at h ⊢
      by_cases c3 : (takeM (unfr bs).2.1).2 ≠ 0
      · rw [if_pos c3] at h; cases h
      · rw [if_neg c3] at h ⊢
        by_cases c4 : ∀ x ∈ bs.drop (unfr bs).2.2.toNat, x = 0
        · rw [if_pos c4]; exact take_Ok (by simpa using c3)
        · rw [if_neg c4] at h; cases h

theorem rRead_okC (p : Nat) (s : Dk) (a : Int) (hb : s.looks a = 0) : Spec Tryz.prog 103 [.pointer (some ⟨p, 0, none⟩), .int .i64 a] [p] [REF p s]
    fun F v Rs' => ∃ b c r fr, (512 ≤ c ∧ SecWf (s.now a)) ∧ v = .tuple #[.slice (some ⟨b, 0, none⟩) 512 c, .int .i64 0] ∧ Rs' = (b, pts b (.cells ((s.now a).map (Value.int .u8) ++ r).toArray 5 fr)) :: (p, REF p s) :: F := by
  have hin := (Dk.looks_zero hb).2
  obtain ⟨m, rfl⟩ : ∃ m : Nat, a = m := ⟨a.toNat, by omega⟩
  refine spec_of Tryz.func103 rfl Tryz.ntmps103 rfl ?_
  intro w0 F
  repeat' (first | with_reducible (first | refine sw_op ?_ | refine sw_op_ ?_) | ((with_reducible refine sw_call (rMay_ok p s m) ?_); rintro _ _ ⟨rfl, rfl⟩) | with_reducible (first | refine sw_nil ?_ | refine sq_then ?_ | refine sc_seq ?_ | refine sc_region ?_ | refine sw_guard_skip ?_ | refine sw_guard_skip_ ?_ | refine sw_guard_run ?_ | refine sc_cond_true ?_ | refine sc_cond_false ?_ | refine sc_ret ?_ | refine sq_then_ret ?_ | refine sc_skip ?_ | refine sc_block ?_ | refine sq_block ?_ | refine sq_block_ret ?_ | refine sc_exit ?_ | refine sq_then_exit ?_ | refine sq_block_exit ?_ | refine sq_block_past ?_ | refine sq_round_ret ?_ | refine sq_round_exit ?_) | (with_reducible refine sc_cond (fun h => ?_) (fun h => ?_)) <;> (try (exfalso; first | contradiction | omega | exact h Iff.rfl)) | (with_reducible refine sw_guard_split (fun h => ?_) (fun h => ?_)) <;> (try (exfalso; first | contradiction | omega | exact h Iff.rfl)) | (with_reducible refine sw_pick (fun h => ?_) (fun h => ?_)) <;> (try (exfalso; first | contradiction | omega | exact h Iff.rfl)) | fail)
  refine REF.sw (p := p) (s := s) fun x hx => ?_
  have hnw := Dk.now_wf hx.wf hin.1 hin.2
  unfold REFl
  repeat' (first | with_reducible (first | refine sw_op ?_ | refine sw_op_ ?_) | with_reducible (first | refine sw_nil ?_ | refine sq_then ?_ | refine sc_seq ?_ | refine sc_region ?_ | refine sw_guard_skip ?_ | refine sw_guard_skip_ ?_ | refine sw_guard_run ?_ | refine sc_cond_true ?_ | refine sc_cond_false ?_ | refine sc_ret ?_ | refine sq_then_ret ?_ | refine sc_skip ?_ | refine sc_block ?_ | refine sq_block ?_ | refine sq_block_ret ?_ | refine sc_exit ?_ | refine sq_then_exit ?_ | refine sq_block_exit ?_ | refine sq_block_past ?_ | refine sq_round_ret ?_ | refine sq_round_exit ?_) | fail)
  refine sw_idx m (by omega) ?_
  refine sw_loadAt (strV (s.now m)) (cellsOf_get (by omega)) ?_
  unfold strV
  repeat' (first | with_reducible (first | refine sw_op ?_ | refine sw_op_ ?_) | with_reducible (first | refine sw_nil ?_ | refine sq_then ?_ | refine sc_seq ?_ | refine sc_region ?_ | refine sw_guard_skip ?_ | refine sw_guard_skip_ ?_ | refine sw_guard_run ?_ | refine sc_cond_true ?_ | refine sc_cond_false ?_ | refine sc_ret ?_ | refine sq_then_ret ?_ | refine sc_skip ?_ | refine sc_block ?_ | refine sq_block ?_ | refine sq_block_ret ?_ | refine sc_exit ?_ | refine sq_then_exit ?_ | refine sq_block_exit ?_ | refine sq_block_past ?_ | refine sq_round_ret ?_ | refine sq_round_exit ?_) | fail)
  refine sw_strBytesC (s.now m) hnw.byte fun b c r fr hc => ?_
  rw [hnw.len] at hc ⊢
  repeat' (first | with_reducible (first | refine sw_op ?_ | refine sw_op_ ?_) | with_reducible (first | refine sw_nil ?_ | refine sq_then ?_ | refine sc_seq ?_ | refine sc_region ?_ | refine sw_guard_skip ?_ | refine sw_guard_skip_ ?_ | refine sw_guard_run ?_ | refine sc_cond_true ?_ | refine sc_cond_false ?_ | refine sc_ret ?_ | refine sq_then_ret ?_ | refine sc_skip ?_ | refine sc_block ?_ | refine sq_block ?_ | refine sq_block_ret ?_ | refine sc_exit ?_ | refine sq_then_exit ?_ | refine sq_block_exit ?_ | refine sq_block_past ?_ | refine sq_round_ret ?_ | refine sq_round_exit ?_) | fail)
  refine sq_ret2 Tryz.results103 ?_
  refine ⟨_, ⟨b, c, r, fr, ⟨hc, hnw⟩, rfl, rfl⟩, Ent.cons _ (Ent.trans (B := REFl p s x F) ?_ (REF.close hx))⟩
  unfold REFl
  repeat' (first | with_reducible exact Ent.refl _ | with_reducible refine Ent.take_eq ?_ ?_ | rfl | with_reducible refine Ent.trans (Ent.drop _ _) ?_)

theorem q20One_ok (p : Nat) (s : Dk) (a i : Int) (ha : -4611686018427387904 ≤ a ∧ a ≤ 4611686018427387000) :
    Spec Tryz.prog 80 [.pointer (some ⟨p, 0, none⟩), .int .i64 a, .int .i64 (a + i)] [p] [REF p s]
    fun F w Rs' => w = .tuple #[.agg (one (dkf s) a i).1.cs.toArray, .int .i64 (one (dkf s) a i).2] ∧ Rs' = (p, REF p s) :: F := by
  refine spec_of Tryz.func80 rfl Tryz.ntmps80 rfl ?_
  intro w0 F
  have hd : dkf s (a + i) = (s.now (a + i), s.looks (a + i)) := rfl
  unfold one
  rw [hd]
  generalize a + i = ai at *
  repeat' (first | with_reducible (first | refine sw_op ?_ | refine sw_op_ ?_) | with_reducible (first | refine sw_nil ?_ | refine sq_then ?_ | refine sc_seq ?_ | refine sc_region ?_ | refine sw_guard_skip ?_ | refine sw_guard_skip_ ?_ | refine sw_guard_run ?_ | refine sc_cond_true ?_ | refine sc_cond_false ?_ | refine sc_ret ?_ | refine sq_then_ret ?_ | refine sc_skip ?_ | refine sc_block ?_ | refine sq_block ?_ | refine sq_block_ret ?_ | refine sc_exit ?_ | refine sq_then_exit ?_ | refine sq_block_exit ?_ | refine sq_block_past ?_ | refine sq_round_ret ?_ | refine sq_round_exit ?_) | fail)
  refine sw_alloc fun b0 => ?_
  repeat' (first | with_reducible (first | refine sw_op ?_ | refine sw_op_ ?_) | with_reducible (first | refine sw_nil ?_ | refine sq_then ?_ | refine sc_seq ?_ | refine sc_region ?_ | refine sw_guard_skip ?_ | refine sw_guard_skip_ ?_ | refine sw_guard_run ?_ | refine sc_cond_true ?_ | refine sc_cond_false ?_ | refine sc_ret ?_ | refine sq_then_ret ?_ | refine sc_skip ?_ | refine sc_block ?_ | refine sq_block ?_ | refine sq_block_ret ?_ | refine sc_exit ?_ | refine sq_then_exit ?_ | refine sq_block_exit ?_ | refine sq_block_past ?_ | refine sq_round_ret ?_ | refine sq_round_exit ?_) | fail)
  rcases Classical.em (s.looks ai = 0) with hl | hl
  · refine sw_call (rRead_okC p s ai hl) ?_
    rintro _ _ ⟨b, c, r, fr, ⟨hc, hwf⟩, rfl, rfl⟩
    rw [if_neg (by simpa using hl)]
    have h5 := hwf.len
    have hrd : RdB (pts b (.cells ((s.now ai).map (Value.int .u8) ++ r).toArray 5 fr)) (.slice (some ⟨b, 0, none⟩) (s.now ai).length c) (s.now ai) := .row b 0 c _ (by omega) (reads_pts fun j v hj => by rw [Nat.zero_add, List.getElem?_append_left (List.getElem?_eq_some_iff.1 hj).1]; exact hj)
    repeat' (first | with_reducible (first | refine sw_op ?_ | refine sw_op_ ?_) | with_reducible (first | refine sw_nil ?_ | refine sq_then ?_ | refine sc_seq ?_ | refine sc_region ?_ | refine sw_guard_skip ?_ | refine sw_guard_skip_ ?_ | refine sw_guard_run ?_ | refine sc_cond_true ?_ | refine sc_cond_false ?_ | refine sc_ret ?_ | refine sq_then_ret ?_ | refine sc_skip ?_ | refine sc_block ?_ | refine sq_block ?_ | refine sq_block_ret ?_ | refine sc_exit ?_ | refine sq_then_exit ?_ | refine sq_block_exit ?_ | refine sq_block_past ?_ | refine sq_round_ret ?_ | refine sq_round_exit ?_) | (with_reducible refine sc_cond (fun h => ?_) (fun h => ?_)) <;> (try (exfalso; first | contradiction | omega | exact h Iff.rfl)) | fail)
    rw [← h5]
    refine sw_call (q20Parse_ok b _ _ (s.now ai) hrd hwf.byte) ?_
    rintro _ _ ⟨rfl, rfl⟩
    simp only
    have hpe := parse_err (bs := s.now ai)
    have hpo := parse_Ok (bs := s.now ai)
    generalize parseM (s.now ai) = q at *
    obtain ⟨q1, q2⟩ := q
    simp only at hpe hpo ⊢
    repeat' (first | with_reducible (first | refine sw_op ?_ | refine sw_op_ ?_) | with_reducible (first | refine sw_nil ?_ | refine sq_then ?_ | refine sc_seq ?_ | refine sc_region ?_ | refine sw_guard_skip ?_ | refine sw_guard_skip_ ?_ | refine sw_guard_run ?_ | refine sc_cond_true ?_ | refine sc_cond_false ?_ | refine sc_ret ?_ | refine sq_then_ret ?_ | refine sc_skip ?_ | refine sc_block ?_ | refine sq_block ?_ | refine sq_block_ret ?_ | refine sc_exit ?_ | refine sq_then_exit ?_ | refine sq_block_exit ?_ | refine sq_block_past ?_ | refine sq_round_ret ?_ | refine sq_round_exit ?_) | fail)
    refine sw_alloc fun b1 => ?_
    refine sw_store_agg ?_
    repeat' (first | with_reducible (first | refine sw_op ?_ | refine sw_op_ ?_) | with_reducible (first | refine sw_nil ?_ | refine sq_then ?_ | refine sc_seq ?_ | refine sc_region ?_ | refine sw_guard_skip ?_ | refine sw_guard_skip_ ?_ | refine sw_guard_run ?_ | refine sc_cond_true ?_ | refine sc_cond_false ?_ | refine sc_ret ?_ | refine sq_then_ret ?_ | refine sc_skip ?_ | refine sc_block ?_ | refine sq_block ?_ | refine sq_block_ret ?_ | refine sc_exit ?_ | refine sq_then_exit ?_ | refine sq_block_exit ?_ | refine sq_block_past ?_ | refine sq_round_ret ?_ | refine sq_round_exit ?_) | (with_reducible refine sc_cond (fun h => ?_) (fun h => ?_)) <;> (try (exfalso; first | contradiction | omega | exact h Iff.rfl)) | fail)
    · have he := hpe h
      injection he with he1 he2
      subst he1
      rw [if_pos h]
      refine sw_build Ms.zero.cs (by kernel_rfl) ?_
      repeat' (first | with_reducible (first | refine sw_op ?_ | refine sw_op_ ?_) | with_reducible (first | refine sw_nil ?_ | refine sq_then ?_ | refine sc_seq ?_ | refine sc_region ?_ | refine sw_guard_skip ?_ | refine sw_guard_skip_ ?_ | refine sw_guard_run ?_ | refine sc_cond_true ?_ | refine sc_cond_false ?_ | refine sc_ret ?_ | refine sq_then_ret ?_ | refine sc_skip ?_ | refine sc_block ?_ | refine sq_block ?_ | refine sq_block_ret ?_ | refine sc_exit ?_ | refine sq_then_exit ?_ | refine sq_block_exit ?_ | refine sq_block_past ?_ | refine sq_round_ret ?_ | refine sq_round_exit ?_) | fail)
      refine sw_store_agg ?_
      repeat' (first | with_reducible (first | refine sw_op ?_ | refine sw_op_ ?_) | with_reducible (first | refine sw_nil ?_ | refine sq_then ?_ | refine sc_seq ?_ | refine sc_region ?_ | refine sw_guard_skip ?_ | refine sw_guard_skip_ ?_ | refine sw_guard_run ?_ | refine sc_cond_true ?_ | refine sc_cond_false ?_ | refine sc_ret ?_ | refine sq_then_ret ?_ | refine sc_skip ?_ | refine sc_block ?_ | refine sq_block ?_ | refine sq_block_ret ?_ | refine sc_exit ?_ | refine sq_then_exit ?_ | refine sq_block_exit ?_ | refine sq_block_past ?_ | refine sq_round_ret ?_ | refine sq_round_exit ?_) | fail)
      refine sq_resAT Tryz.results80 (by first | exact .inl rfl | exact .inr rfl) rfl ?_
      refine ⟨_, ⟨rfl, rfl⟩, ?_⟩
      repeat' (first | with_reducible exact Ent.refl _ | with_reducible refine Ent.take_eq ?_ ?_ | rfl | with_reducible refine Ent.trans (Ent.drop _ _) ?_)
    · have hok := hpo (by omega)
      rw [if_neg h]
      refine sw_call (r20Place_ok a q1 (by have := hok.1; unfold Stamp at this; omega) (by omega)) ?_
      rintro _ _ ⟨rfl, rfl⟩
      repeat' (first | with_reducible (first | refine sw_op ?_ | refine sw_op_ ?_) | with_reducible (first | refine sw_nil ?_ | refine sq_then ?_ | refine sc_seq ?_ | refine sc_region ?_ | refine sw_guard_skip ?_ | refine sw_guard_skip_ ?_ | refine sw_guard_run ?_ | refine sc_cond_true ?_ | refine sc_cond_false ?_ | refine sc_ret ?_ | refine sq_then_ret ?_ | refine sc_skip ?_ | refine sc_block ?_ | refine sq_block ?_ | refine sq_block_ret ?_ | refine sc_exit ?_ | refine sq_then_exit ?_ | refine sq_block_exit ?_ | refine sq_block_past ?_ | refine sq_round_ret ?_ | refine sq_round_exit ?_) | (with_reducible refine sc_cond (fun h => ?_) (fun h => ?_)) <;> (try (exfalso; first | contradiction | omega | exact h Iff.rfl)) | fail)
      · rw [if_pos ‹_›]
        refine sw_build Ms.zero.cs (by kernel_rfl) ?_
        refine sw_store_agg ?_
        repeat' (first | with_reducible (first | refine sw_op ?_ | refine sw_op_ ?_) | with_reducible (first | refine sw_nil ?_ | refine sq_then ?_ | refine sc_seq ?_ | refine sc_region ?_ | refine sw_guard_skip ?_ | refine sw_guard_skip_ ?_ | refine sw_guard_run ?_ | refine sc_cond_true ?_ | refine sc_cond_false ?_ | refine sc_ret ?_ | refine sq_then_ret ?_ | refine sc_skip ?_ | refine sc_block ?_ | refine sq_block ?_ | refine sq_block_ret ?_ | refine sc_exit ?_ | refine sq_then_exit ?_ | refine sq_block_exit ?_ | refine sq_block_past ?_ | refine sq_round_ret ?_ | refine sq_round_exit ?_) | fail)
        refine sq_resAT Tryz.results80 (by first | exact .inl rfl | exact .inr rfl) rfl ?_
        refine ⟨_, ⟨rfl, rfl⟩, ?_⟩
        repeat' (first | with_reducible exact Ent.refl _ | with_reducible refine Ent.take_eq ?_ ?_ | rfl | with_reducible refine Ent.trans (Ent.drop _ _) ?_)
      · rw [if_neg ‹_›]
        have h2 : q2 = 0 := by omega
        subst h2
        refine sw_store_agg ?_
        repeat' (first | with_reducible (first | refine sw_op ?_ | refine sw_op_ ?_) | with_reducible (first | refine sw_nil ?_ | refine sq_then ?_ | refine sc_seq ?_ | refine sc_region ?_ | refine sw_guard_skip ?_ | refine sw_guard_skip_ ?_ | refine sw_guard_run ?_ | refine sc_cond_true ?_ | refine sc_cond_false ?_ | refine sc_ret ?_ | refine sq_then_ret ?_ | refine sc_skip ?_ | refine sc_block ?_ | refine sq_block ?_ | refine sq_block_ret ?_ | refine sc_exit ?_ | refine sq_then_exit ?_ | refine sq_block_exit ?_ | refine sq_block_past ?_ | refine sq_round_ret ?_ | refine sq_round_exit ?_) | fail)
        refine sq_resAT Tryz.results80 (by first | exact .inl rfl | exact .inr rfl) rfl ?_
        refine ⟨_, ⟨rfl, rfl⟩, ?_⟩
        repeat' (first | with_reducible exact Ent.refl _ | with_reducible refine Ent.take_eq ?_ ?_ | rfl | with_reducible refine Ent.trans (Ent.drop _ _) ?_)
  · refine sw_call (rRead_bad p s ai hl) ?_
    rintro _ _ ⟨rfl, rfl⟩
    rw [if_pos (by simpa using hl)]
    repeat' (first | with_reducible (first | refine sw_op ?_ | refine sw_op_ ?_) | with_reducible (first | refine sw_nil ?_ | refine sq_then ?_ | refine sc_seq ?_ | refine sc_region ?_ | refine sw_guard_skip ?_ | refine sw_guard_skip_ ?_ | refine sw_guard_run ?_ | refine sc_cond_true ?_ | refine sc_cond_false ?_ | refine sc_ret ?_ | refine sq_then_ret ?_ | refine sc_skip ?_ | refine sc_block ?_ | refine sq_block ?_ | refine sq_block_ret ?_ | refine sc_exit ?_ | refine sq_then_exit ?_ | refine sq_block_exit ?_ | refine sq_block_past ?_ | refine sq_round_ret ?_ | refine sq_round_exit ?_) | (with_reducible refine sc_cond (fun h => ?_) (fun h => ?_)) <;> (try (exfalso; first | contradiction | omega | exact h Iff.rfl)) | fail)
    refine sw_build Ms.zero.cs (by kernel_rfl) ?_
    repeat' (first | with_reducible (first | refine sw_op ?_ | refine sw_op_ ?_) | with_reducible (first | refine sw_nil ?_ | refine sq_then ?_ | refine sc_seq ?_ | refine sc_region ?_ | refine sw_guard_skip ?_ | refine sw_guard_skip_ ?_ | refine sw_guard_run ?_ | refine sc_cond_true ?_ | refine sc_cond_false ?_ | refine sc_ret ?_ | refine sq_then_ret ?_ | refine sc_skip ?_ | refine sc_block ?_ | refine sq_block ?_ | refine sq_block_ret ?_ | refine sc_exit ?_ | refine sq_then_exit ?_ | refine sq_block_exit ?_ | refine sq_block_past ?_ | refine sq_round_ret ?_ | refine sq_round_exit ?_) | fail)
    refine sw_store_agg ?_
    repeat' (first | with_reducible (first | refine sw_op ?_ | refine sw_op_ ?_) | with_reducible (first | refine sw_nil ?_ | refine sq_then ?_ | refine sc_seq ?_ | refine sc_region ?_ | refine sw_guard_skip ?_ | refine sw_guard_skip_ ?_ | refine sw_guard_run ?_ | refine sc_cond_true ?_ | refine sc_cond_false ?_ | refine sc_ret ?_ | refine sq_then_ret ?_ | refine sc_skip ?_ | refine sc_block ?_ | refine sq_block ?_ | refine sq_block_ret ?_ | refine sc_exit ?_ | refine sq_then_exit ?_ | refine sq_block_exit ?_ | refine sq_block_past ?_ | refine sq_round_ret ?_ | refine sq_round_exit ?_) | fail)
    refine sq_resAT Tryz.results80 (by first | exact .inl rfl | exact .inr rfl) rfl ?_
    refine ⟨_, ⟨rfl, rfl⟩, ?_⟩
    repeat' (first | with_reducible exact Ent.refl _ | with_reducible refine Ent.take_eq ?_ ?_ | rfl | with_reducible refine Ent.trans (Ent.drop _ _) ?_)
end Go.Gsl
