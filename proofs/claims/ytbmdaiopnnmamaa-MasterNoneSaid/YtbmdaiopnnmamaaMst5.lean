/- Masters written; what stands for a disk. -/
import Derived.Test.YtbmdaiopnnmamaaMst4
import Derived.Test.YtbmdaiopnnmamaaDiskB
namespace Go.Gsl
set_option linter.unusedVariables false
open Go.Proofs

/-- a disk that no call made -/
def NoneD (v : Value) (k : Nat) (r : HProp) : Prop := Spec Try.prog 81 [v] [k] [r] fun F w Rs' => w = .bool true ∧ Rs' = (k, r) :: F
theorem NoneD.nil (k : Nat) (r : HProp) : NoneD (.pointer none) k r := fun w0 F => dNone_nil w0 ((k, r) :: F)
theorem NoneD.zero (p : Nat) : NoneD (.pointer (some ⟨p, 0, none⟩)) p (pts p dzero) := dNone_zero p
theorem NoneD.looks {v : Value} {k : Nat} {r : HProp} (hN : NoneD v k r) (a : Int) : Spec Try.prog 83 [v, .int .i64 a] [k] [r] fun F w Rs' => w = .int .i64 2 ∧ Rs' = (k, r) :: F := by
  unfold NoneD at hN
  refine spec_of Try.func83 rfl Try.ntmps83 rfl ?_
  intro w0 F
  repeat' (first | with_reducible (first | refine sw_op ?_ | refine sw_op_ ?_) | ((with_reducible refine sw_call hN ?_); rintro _ _ ⟨rfl, rfl⟩) | with_reducible (first | refine sw_nil ?_ | refine sq_then ?_ | refine sc_seq ?_ | refine sc_region ?_ | refine sw_guard_skip ?_ | refine sw_guard_skip_ ?_ | refine sw_guard_run ?_ | refine sc_cond_true ?_ | refine sc_cond_false ?_ | refine sc_ret ?_ | refine sq_then_ret ?_ | refine sc_skip ?_ | refine sc_block ?_ | refine sq_block ?_ | refine sq_block_ret ?_ | refine sc_exit ?_ | refine sq_then_exit ?_ | refine sq_block_exit ?_ | refine sq_block_past ?_ | refine sq_round_ret ?_ | refine sq_round_exit ?_) | (with_reducible refine sc_cond (fun h => ?_) (fun h => ?_)) <;> (try (exfalso; first | contradiction | omega | exact h Iff.rfl)) | (with_reducible refine sw_guard_split (fun h => ?_) (fun h => ?_)) <;> (try (exfalso; first | contradiction | omega | exact h Iff.rfl)) | (with_reducible refine sw_pick (fun h => ?_) (fun h => ?_)) <;> (try (exfalso; first | contradiction | omega | exact h Iff.rfl)) | fail)
  refine sq_ret1 Try.results83 ?_
  exact ⟨_, ⟨rfl, rfl⟩, Ent.refl _⟩
theorem NoneD.rd {v : Value} {k : Nat} {r : HProp} (hN : NoneD v k r) : RdSpec v k r fun _ => ([], 2) := by
  intro a
  refine spec_of Try.func65 rfl Try.ntmps65 rfl ?_
  intro w0 F
  repeat' (first | with_reducible (first | refine sw_op ?_ | refine sw_op_ ?_) | ((with_reducible refine sw_call (hN.looks a) ?_); rintro _ _ ⟨rfl, rfl⟩) | with_reducible (first | refine sw_nil ?_ | refine sq_then ?_ | refine sc_seq ?_ | refine sc_region ?_ | refine sw_guard_skip ?_ | refine sw_guard_skip_ ?_ | refine sw_guard_run ?_ | refine sc_cond_true ?_ | refine sc_cond_false ?_ | refine sc_ret ?_ | refine sq_then_ret ?_ | refine sc_skip ?_ | refine sc_block ?_ | refine sq_block ?_ | refine sq_block_ret ?_ | refine sc_exit ?_ | refine sq_then_exit ?_ | refine sq_block_exit ?_ | refine sq_block_past ?_ | refine sq_round_ret ?_ | refine sq_round_exit ?_) | (with_reducible refine sc_cond (fun h => ?_) (fun h => ?_)) <;> (try (exfalso; first | contradiction | omega | exact h Iff.rfl)) | (with_reducible refine sw_guard_split (fun h => ?_) (fun h => ?_)) <;> (try (exfalso; first | contradiction | omega | exact h Iff.rfl)) | (with_reducible refine sw_pick (fun h => ?_) (fun h => ?_)) <;> (try (exfalso; first | contradiction | omega | exact h Iff.rfl)) | fail)
  refine sq_ret2 Try.results65 ?_
  exact ⟨_, .inl ⟨show (2 : Int) ≠ 0 by decide, rfl, rfl⟩, Ent.refl _⟩
theorem NoneD.sectors {v : Value} {k : Nat} {r : HProp} (hN : NoneD v k r) : Spec Try.prog 66 [v] [k] [r] fun F w Rs' => w = .int .i64 0 ∧ Rs' = (k, r) :: F := by
  unfold NoneD at hN
  refine spec_of Try.func66 rfl Try.ntmps66 rfl ?_
  intro w0 F
  repeat' (first | with_reducible (first | refine sw_op ?_ | refine sw_op_ ?_) | ((with_reducible refine sw_call hN ?_); rintro _ _ ⟨rfl, rfl⟩) | with_reducible (first | refine sw_nil ?_ | refine sq_then ?_ | refine sc_seq ?_ | refine sc_region ?_ | refine sw_guard_skip ?_ | refine sw_guard_skip_ ?_ | refine sw_guard_run ?_ | refine sc_cond_true ?_ | refine sc_cond_false ?_ | refine sc_ret ?_ | refine sq_then_ret ?_ | refine sc_skip ?_ | refine sc_block ?_ | refine sq_block ?_ | refine sq_block_ret ?_ | refine sc_exit ?_ | refine sq_then_exit ?_ | refine sq_block_exit ?_ | refine sq_block_past ?_ | refine sq_round_ret ?_ | refine sq_round_exit ?_) | (with_reducible refine sc_cond (fun h => ?_) (fun h => ?_)) <;> (try (exfalso; first | contradiction | omega | exact h Iff.rfl)) | (with_reducible refine sw_guard_split (fun h => ?_) (fun h => ?_)) <;> (try (exfalso; first | contradiction | omega | exact h Iff.rfl)) | (with_reducible refine sw_pick (fun h => ?_) (fun h => ?_)) <;> (try (exfalso; first | contradiction | omega | exact h Iff.rfl)) | fail)
  refine sq_ret1 Try.results66 ?_
  exact ⟨_, ⟨rfl, rfl⟩, Ent.refl _⟩
theorem NoneD.write {v : Value} {k : Nat} {r : HProp} (hN : NoneD v k r) (a : Int) (m : Ms) : Spec Try.prog 24 [v, .int .i64 a, .agg m.cs.toArray] [k] [r] fun F w Rs' => w = .int .i64 2 ∧ Rs' = (k, r) :: F := by
  refine spec_of Try.func24 rfl Try.ntmps24 rfl ?_
  intro w0 F
  repeat' (first | with_reducible (first | refine sw_op ?_ | refine sw_op_ ?_) | with_reducible (first | refine sw_nil ?_ | refine sq_then ?_ | refine sc_seq ?_ | refine sc_region ?_ | refine sw_guard_skip ?_ | refine sw_guard_skip_ ?_ | refine sw_guard_run ?_ | refine sc_cond_true ?_ | refine sc_cond_false ?_ | refine sc_ret ?_ | refine sq_then_ret ?_ | refine sc_skip ?_ | refine sc_block ?_ | refine sq_block ?_ | refine sq_block_ret ?_ | refine sc_exit ?_ | refine sq_then_exit ?_ | refine sq_block_exit ?_ | refine sq_block_past ?_ | refine sq_round_ret ?_ | refine sq_round_exit ?_) | fail)
  refine sw_box fun b => ?_
  repeat' (first | with_reducible (first | refine sw_op ?_ | refine sw_op_ ?_) | ((with_reducible refine sw_call hN.sectors ?_); rintro _ _ ⟨rfl, rfl⟩) | with_reducible (first | refine sw_nil ?_ | refine sq_then ?_ | refine sc_seq ?_ | refine sc_region ?_ | refine sw_guard_skip ?_ | refine sw_guard_skip_ ?_ | refine sw_guard_run ?_ | refine sc_cond_true ?_ | refine sc_cond_false ?_ | refine sc_ret ?_ | refine sq_then_ret ?_ | refine sc_skip ?_ | refine sc_block ?_ | refine sq_block ?_ | refine sq_block_ret ?_ | refine sc_exit ?_ | refine sq_then_exit ?_ | refine sq_block_exit ?_ | refine sq_block_past ?_ | refine sq_round_ret ?_ | refine sq_round_exit ?_) | (with_reducible refine sc_cond (fun h => ?_) (fun h => ?_)) <;> (try (exfalso; first | contradiction | omega | exact h Iff.rfl)) | fail)
  refine sq_ret1 Try.results24 ?_
  refine ⟨_, ⟨rfl, rfl⟩, ?_⟩
  repeat' (first | with_reducible exact Ent.refl _ | with_reducible refine Ent.take_eq ?_ ?_ | rfl | with_reducible refine Ent.trans (Ent.drop _ _) ?_)

/-- a disk's sectors -/
theorem rd_disk_wf (p : Nat) (s : Dk) (hwf : s.Wf) : RdSpec (.pointer (some ⟨p, 0, none⟩)) p (DISK p s) fun a => (s.now a, s.looks a) := by
  intro a
  rcases Classical.em (s.looks a = 0) with h | h
  · refine (dRead_ok p s a h).mono fun F v Rs' => ?_
    rintro ⟨b, rfl, rfl⟩
    have hin : 0 ≤ a ∧ a < s.sure.length := by
      unfold Dk.looks at h
      split at h
      · cases h
      · split at h
        · cases h
        · omega
    have hs := Dk.now_wf hwf hin.1 hin.2
    refine .inr ⟨h, hs.byte, hs.len, b, ?_, rfl⟩
    simp only [hs.len]
  · refine (dRead_bad p s a h).mono fun F v Rs' => ?_
    rintro ⟨rfl, rfl⟩
    exact .inl ⟨h, rfl, rfl⟩
theorem rd_disk (p : Nat) (s : Dk) : RdSpec (.pointer (some ⟨p, 0, none⟩)) p (DISK p s) fun a => (s.now a, s.looks a) := by
  intro a w0 F w hw
  obtain ⟨x, hx, _⟩ := DISK.openS hw
  exact rd_disk_wf p s hx.wf a w0 F w hw

/-- what Write does -/
def MW (s : Dk) (a : Int) (m : Ms) (s' : Dk) (e : Int) : Prop :=
  (m.chk ≠ 0 ∧ e = m.chk ∧ s' = s) ∨ (m.chk = 0 ∧ s.looks (m.place a) ≠ 0 ∧ e = s.looks (m.place a) ∧ s' = s) ∨
  (m.chk = 0 ∧ s.looks (m.place a) = 0 ∧ s.fuse = 1 ∧ e = 6 ∧ ∃ ks, KeysD (s.wrote (m.place a) m.sec).dirty ks ∧ s' = (s.wrote (m.place a) m.sec).gone ks s.keep) ∨
  (m.chk = 0 ∧ s.looks (m.place a) = 0 ∧ s.fuse ≠ 1 ∧ (s.wrote (m.place a) m.sec).fuse = 1 ∧ e = 6 ∧ ∃ ks, KeysD (s.wrote (m.place a) m.sec).dirty ks ∧ s' = (s.wrote (m.place a) m.sec).met.gone ks (s.wrote (m.place a) m.sec).keep) ∨
  (m.chk = 0 ∧ s.looks (m.place a) = 0 ∧ s.fuse ≠ 1 ∧ (s.wrote (m.place a) m.sec).fuse ≠ 1 ∧ e = 0 ∧ s' = (s.wrote (m.place a) m.sec).barred)

theorem mWrite_ok (p : Nat) (s : Dk) (a : Int) (m : Ms) (hm : m.In) (ha : -4611686018427387904 ≤ a ∧ a ≤ 4611686018427387000) :
    Spec Try.prog 24 [.pointer (some ⟨p, 0, none⟩), .int .i64 a, .agg m.cs.toArray] [p] [DISK p s] fun F w Rs' => ∃ s' e, MW s a m s' e ∧ w = .int .i64 e ∧ Rs' = (p, DISK p s') :: F := by
  refine spec_of Try.func24 rfl Try.ntmps24 rfl ?_
  intro w0 F
  refine DISK.scwf (p := p) (s := s) fun hwf => ?_
  have hn1 := hwf.n1
  repeat' (first | with_reducible (first | refine sw_op ?_ | refine sw_op_ ?_) | with_reducible (first | refine sw_nil ?_ | refine sq_then ?_ | refine sc_seq ?_ | refine sc_region ?_ | refine sw_guard_skip ?_ | refine sw_guard_skip_ ?_ | refine sw_guard_run ?_ | refine sc_cond_true ?_ | refine sc_cond_false ?_ | refine sc_ret ?_ | refine sq_then_ret ?_ | refine sc_skip ?_ | refine sc_block ?_ | refine sq_block ?_ | refine sq_block_ret ?_ | refine sc_exit ?_ | refine sq_then_exit ?_ | refine sq_block_exit ?_ | refine sq_block_past ?_ | refine sq_round_ret ?_ | refine sq_round_exit ?_) | fail)
  refine sw_box fun b => ?_
  repeat' (first | with_reducible (first | refine sw_op ?_ | refine sw_op_ ?_) | ((with_reducible refine sw_call (dSectors_ok p s) ?_); rintro _ _ ⟨rfl, rfl⟩) | with_reducible (first | refine sw_nil ?_ | refine sq_then ?_ | refine sc_seq ?_ | refine sc_region ?_ | refine sw_guard_skip ?_ | refine sw_guard_skip_ ?_ | refine sw_guard_run ?_ | refine sc_cond_true ?_ | refine sc_cond_false ?_ | refine sc_ret ?_ | refine sq_then_ret ?_ | refine sc_skip ?_ | refine sc_block ?_ | refine sq_block ?_ | refine sq_block_ret ?_ | refine sc_exit ?_ | refine sq_then_exit ?_ | refine sq_block_exit ?_ | refine sq_block_past ?_ | refine sq_round_ret ?_ | refine sq_round_exit ?_) | (with_reducible refine sc_cond (fun h => ?_) (fun h => ?_)) <;> (try (exfalso; first | contradiction | omega | exact h Iff.rfl)) | fail)
  refine sw_call (mSector_ok p (DISK p s) m hm) ?_
  rintro _ _ (⟨hc, rfl, rfl⟩ | ⟨hc, b1, rfl, rfl⟩)
  · repeat' (first | with_reducible (first | refine sw_op ?_ | refine sw_op_ ?_) | with_reducible (first | refine sw_nil ?_ | refine sq_then ?_ | refine sc_seq ?_ | refine sc_region ?_ | refine sw_guard_skip ?_ | refine sw_guard_skip_ ?_ | refine sw_guard_run ?_ | refine sc_cond_true ?_ | refine sc_cond_false ?_ | refine sc_ret ?_ | refine sq_then_ret ?_ | refine sc_skip ?_ | refine sc_block ?_ | refine sq_block ?_ | refine sq_block_ret ?_ | refine sc_exit ?_ | refine sq_then_exit ?_ | refine sq_block_exit ?_ | refine sq_block_past ?_ | refine sq_round_ret ?_ | refine sq_round_exit ?_) | (with_reducible refine sc_cond (fun h => ?_) (fun h => ?_)) <;> (try (exfalso; first | contradiction | omega | exact h Iff.rfl)) | fail)
    refine sq_ret1 Try.results24 ?_
    refine ⟨_, ⟨s, m.chk, .inl ⟨hc, rfl, rfl⟩, rfl, rfl⟩, ?_⟩
    repeat' (first | with_reducible exact Ent.refl _ | with_reducible refine Ent.take_eq ?_ ?_ | rfl | with_reducible refine Ent.trans (Ent.drop _ _) ?_)
  · repeat' (first | with_reducible (first | refine sw_op ?_ | refine sw_op_ ?_) | ((with_reducible refine sw_call (mPlace_ok a m (by omega)) ?_); rintro _ _ ⟨rfl, rfl⟩) | with_reducible (first | refine sw_nil ?_ | refine sq_then ?_ | refine sc_seq ?_ | refine sc_region ?_ | refine sw_guard_skip ?_ | refine sw_guard_skip_ ?_ | refine sw_guard_run ?_ | refine sc_cond_true ?_ | refine sc_cond_false ?_ | refine sc_ret ?_ | refine sq_then_ret ?_ | refine sc_skip ?_ | refine sc_block ?_ | refine sq_block ?_ | refine sq_block_ret ?_ | refine sc_exit ?_ | refine sq_then_exit ?_ | refine sq_block_exit ?_ | refine sq_block_past ?_ | refine sq_round_ret ?_ | refine sq_round_exit ?_) | (with_reducible refine sc_cond (fun h => ?_) (fun h => ?_)) <;> (try (exfalso; first | contradiction | omega | exact h Iff.rfl)) | fail)
    refine sw_call (dWrite_any p b1 s _ (some ⟨b1, 0, none⟩) 512 (m.place a) m.sec ⟨m.sec_len, m.sec_byt⟩ (by simp) reads_row0) ?_
    rintro _ _ (⟨hl, rfl, rfl⟩ | ⟨hl, hf, rfl, rfl⟩ | ⟨hl, hf, rfl, ks, hk, rfl⟩)
    · repeat' (first | with_reducible (first | refine sw_op ?_ | refine sw_op_ ?_) | with_reducible (first | refine sw_nil ?_ | refine sq_then ?_ | refine sc_seq ?_ | refine sc_region ?_ | refine sw_guard_skip ?_ | refine sw_guard_skip_ ?_ | refine sw_guard_run ?_ | refine sc_cond_true ?_ | refine sc_cond_false ?_ | refine sc_ret ?_ | refine sq_then_ret ?_ | refine sc_skip ?_ | refine sc_block ?_ | refine sq_block ?_ | refine sq_block_ret ?_ | refine sc_exit ?_ | refine sq_then_exit ?_ | refine sq_block_exit ?_ | refine sq_block_past ?_ | refine sq_round_ret ?_ | refine sq_round_exit ?_) | (with_reducible refine sc_cond (fun h => ?_) (fun h => ?_)) <;> (try (exfalso; first | contradiction | omega | exact h Iff.rfl)) | fail)
      refine sq_ret1 Try.results24 ?_
      refine ⟨_, ⟨s, _, .inr (.inl ⟨hc, hl, rfl, rfl⟩), rfl, rfl⟩, ?_⟩
      repeat' (first | with_reducible exact Ent.refl _ | with_reducible refine Ent.take_eq ?_ ?_ | rfl | with_reducible refine Ent.trans (Ent.drop _ _) ?_)
    · repeat' (first | with_reducible (first | refine sw_op ?_ | refine sw_op_ ?_) | with_reducible (first | refine sw_nil ?_ | refine sq_then ?_ | refine sc_seq ?_ | refine sc_region ?_ | refine sw_guard_skip ?_ | refine sw_guard_skip_ ?_ | refine sw_guard_run ?_ | refine sc_cond_true ?_ | refine sc_cond_false ?_ | refine sc_ret ?_ | refine sq_then_ret ?_ | refine sc_skip ?_ | refine sc_block ?_ | refine sq_block ?_ | refine sq_block_ret ?_ | refine sc_exit ?_ | refine sq_then_exit ?_ | refine sq_block_exit ?_ | refine sq_block_past ?_ | refine sq_round_ret ?_ | refine sq_round_exit ?_) | (with_reducible refine sc_cond (fun h => ?_) (fun h => ?_)) <;> (try (exfalso; first | contradiction | omega | exact h Iff.rfl)) | fail)
      have hb0 : (s.wrote (m.place a) m.sec).looks 0 = 0 := by
        unfold Dk.looks at hl ⊢
        have e1 : (s.wrote (m.place a) m.sec).down = s.down := rfl
        have e2 : (s.wrote (m.place a) m.sec).sure = s.sure := rfl
        rw [e1, e2]
        split at hl
        · cases hl
        · rename_i hd
          rw [if_neg hd, if_neg (by omega)]
      refine sw_call (dBarrier_ok p _ hb0) ?_
      rintro _ _ (⟨hf2, rfl, rfl⟩ | ⟨hf2, rfl, ks, hk, rfl⟩)
      · repeat' (first | with_reducible (first | refine sw_op ?_ | refine sw_op_ ?_) | with_reducible (first | refine sw_nil ?_ | refine sq_then ?_ | refine sc_seq ?_ | refine sc_region ?_ | refine sw_guard_skip ?_ | refine sw_guard_skip_ ?_ | refine sw_guard_run ?_ | refine sc_cond_true ?_ | refine sc_cond_false ?_ | refine sc_ret ?_ | refine sq_then_ret ?_ | refine sc_skip ?_ | refine sc_block ?_ | refine sq_block ?_ | refine sq_block_ret ?_ | refine sc_exit ?_ | refine sq_then_exit ?_ | refine sq_block_exit ?_ | refine sq_block_past ?_ | refine sq_round_ret ?_ | refine sq_round_exit ?_) | fail)
        refine sq_ret1 Try.results24 ?_
        refine ⟨_, ⟨_, 0, .inr (.inr (.inr (.inr ⟨hc, hl, hf, hf2, rfl, rfl⟩))), rfl, rfl⟩, ?_⟩
        repeat' (first | with_reducible exact Ent.refl _ | with_reducible refine Ent.take_eq ?_ ?_ | rfl | with_reducible refine Ent.trans (Ent.drop _ _) ?_)
      · repeat' (first | with_reducible (first | refine sw_op ?_ | refine sw_op_ ?_) | with_reducible (first | refine sw_nil ?_ | refine sq_then ?_ | refine sc_seq ?_ | refine sc_region ?_ | refine sw_guard_skip ?_ | refine sw_guard_skip_ ?_ | refine sw_guard_run ?_ | refine sc_cond_true ?_ | refine sc_cond_false ?_ | refine sc_ret ?_ | refine sq_then_ret ?_ | refine sc_skip ?_ | refine sc_block ?_ | refine sq_block ?_ | refine sq_block_ret ?_ | refine sc_exit ?_ | refine sq_then_exit ?_ | refine sq_block_exit ?_ | refine sq_block_past ?_ | refine sq_round_ret ?_ | refine sq_round_exit ?_) | fail)
        refine sq_ret1 Try.results24 ?_
        refine ⟨_, ⟨_, 6, .inr (.inr (.inr (.inl ⟨hc, hl, hf, hf2, rfl, ks, hk, rfl⟩))), rfl, rfl⟩, ?_⟩
        repeat' (first | with_reducible exact Ent.refl _ | with_reducible refine Ent.take_eq ?_ ?_ | rfl | with_reducible refine Ent.trans (Ent.drop _ _) ?_)
    · repeat' (first | with_reducible (first | refine sw_op ?_ | refine sw_op_ ?_) | with_reducible (first | refine sw_nil ?_ | refine sq_then ?_ | refine sc_seq ?_ | refine sc_region ?_ | refine sw_guard_skip ?_ | refine sw_guard_skip_ ?_ | refine sw_guard_run ?_ | refine sc_cond_true ?_ | refine sc_cond_false ?_ | refine sc_ret ?_ | refine sq_then_ret ?_ | refine sc_skip ?_ | refine sc_block ?_ | refine sq_block ?_ | refine sq_block_ret ?_ | refine sc_exit ?_ | refine sq_then_exit ?_ | refine sq_block_exit ?_ | refine sq_block_past ?_ | refine sq_round_ret ?_ | refine sq_round_exit ?_) | (with_reducible refine sc_cond (fun h => ?_) (fun h => ?_)) <;> (try (exfalso; first | contradiction | omega | exact h Iff.rfl)) | fail)
      refine sq_ret1 Try.results24 ?_
      refine ⟨_, ⟨_, 6, .inr (.inr (.inl ⟨hc, hl, hf, rfl, ks, hk, rfl⟩)), rfl, rfl⟩, ?_⟩
      repeat' (first | with_reducible exact Ent.refl _ | with_reducible refine Ent.take_eq ?_ ?_ | rfl | with_reducible refine Ent.trans (Ent.drop _ _) ?_)
end Go.Gsl
