/- The document's records: what a master may be, its bytes. -/
import Derived.Test.YtbmdaiopnnmamaaQcd5Q
namespace Go.Gsl
set_option linter.unusedVariables false
open Go.Proofs

theorem q3Ts_ok (x : Int) : Spec Try.prog 108 [.int .i64 x] [] [] fun F v Rs' => v = .bool (decide (Stamp x 1)) ∧ Rs' = F := by
  refine spec_of Try.func108 rfl Try.ntmps108 rfl ?_
  intro w0 F
  repeat' (first | with_reducible (first | refine sw_op ?_ | refine sw_op_ ?_) | with_reducible (first | refine sw_nil ?_ | refine sq_then ?_ | refine sc_seq ?_ | refine sc_region ?_ | refine sw_guard_skip ?_ | refine sw_guard_skip_ ?_ | refine sw_guard_run ?_ | refine sc_cond_true ?_ | refine sc_cond_false ?_ | refine sc_ret ?_ | refine sq_then_ret ?_ | refine sc_skip ?_ | refine sc_block ?_ | refine sq_block ?_ | refine sq_block_ret ?_ | refine sc_exit ?_ | refine sq_then_exit ?_ | refine sq_block_exit ?_ | refine sq_block_past ?_ | refine sq_round_ret ?_ | refine sq_round_exit ?_) | (with_reducible refine sc_cond (fun h => ?_) (fun h => ?_)) <;> (try (exfalso; first | contradiction | omega | exact h Iff.rfl)) | (with_reducible refine sw_guard_split (fun h => ?_) (fun h => ?_)) <;> (try (exfalso; first | contradiction | omega | exact h Iff.rfl)) | (with_reducible refine sw_pick (fun h => ?_) (fun h => ?_)) <;> (try (exfalso; first | contradiction | omega | exact h Iff.rfl)) | fail)
  · refine sq_ret1 Try.results108 ?_
    exact ⟨_, ⟨by congr 1; simp [Stamp, h], rfl⟩, Ent.refl _⟩
  · refine sq_ret1 Try.results108 ?_
    exact ⟨_, ⟨by congr 1; simp [Stamp, h], rfl⟩, Ent.refl _⟩
theorem q3Nought_ok (x : Int) : Spec Try.prog 109 [.int .i64 x] [] [] fun F v Rs' => v = .bool (decide (Stamp x 0)) ∧ Rs' = F := by
  refine spec_of Try.func109 rfl Try.ntmps109 rfl ?_
  intro w0 F
  repeat' (first | with_reducible (first | refine sw_op ?_ | refine sw_op_ ?_) | with_reducible (first | refine sw_nil ?_ | refine sq_then ?_ | refine sc_seq ?_ | refine sc_region ?_ | refine sw_guard_skip ?_ | refine sw_guard_skip_ ?_ | refine sw_guard_run ?_ | refine sc_cond_true ?_ | refine sc_cond_false ?_ | refine sc_ret ?_ | refine sq_then_ret ?_ | refine sc_skip ?_ | refine sc_block ?_ | refine sq_block ?_ | refine sq_block_ret ?_ | refine sc_exit ?_ | refine sq_then_exit ?_ | refine sq_block_exit ?_ | refine sq_block_past ?_ | refine sq_round_ret ?_ | refine sq_round_exit ?_) | (with_reducible refine sc_cond (fun h => ?_) (fun h => ?_)) <;> (try (exfalso; first | contradiction | omega | exact h Iff.rfl)) | (with_reducible refine sw_guard_split (fun h => ?_) (fun h => ?_)) <;> (try (exfalso; first | contradiction | omega | exact h Iff.rfl)) | (with_reducible refine sw_pick (fun h => ?_) (fun h => ?_)) <;> (try (exfalso; first | contradiction | omega | exact h Iff.rfl)) | fail)
  · refine sq_ret1 Try.results109 ?_
    exact ⟨_, ⟨by congr 1; simp [Stamp, h], rfl⟩, Ent.refl _⟩
  · refine sq_ret1 Try.results109 ?_
    exact ⟨_, ⟨by congr 1; simp [Stamp, h], rfl⟩, Ent.refl _⟩

set_option maxHeartbeats 2000000 in
theorem q3Check_ok (m : Ms) : Spec Try.prog 95 [.agg m.cs.toArray] [] [] fun F v Rs' => v = .int .i64 m.chk ∧ Rs' = F := by
  refine spec_of Try.func95 rfl Try.ntmps95 rfl ?_
  intro w0 F
  repeat' (first | with_reducible (first | refine sw_op ?_ | refine sw_op_ ?_) | with_reducible (first | refine sw_nil ?_ | refine sq_then ?_ | refine sc_seq ?_ | refine sc_region ?_ | refine sw_guard_skip ?_ | refine sw_guard_skip_ ?_ | refine sw_guard_run ?_ | refine sc_cond_true ?_ | refine sc_cond_false ?_ | refine sc_ret ?_ | refine sq_then_ret ?_ | refine sc_skip ?_ | refine sc_block ?_ | refine sq_block ?_ | refine sq_block_ret ?_ | refine sc_exit ?_ | refine sq_then_exit ?_ | refine sq_block_exit ?_ | refine sq_block_past ?_ | refine sq_round_ret ?_ | refine sq_round_exit ?_) | fail)
  refine sw_box fun b1 => ?_
  repeat' (first | with_reducible (first | refine sw_op ?_ | refine sw_op_ ?_) | with_reducible refine sw_guard_skip_u ?_ | ((with_reducible refine sw_call (q3Ts_ok _) ?_); rintro _ _ ⟨rfl, rfl⟩) | ((with_reducible refine sw_call (q3Nought_ok _) ?_); rintro _ _ ⟨rfl, rfl⟩) | with_reducible (first | refine sw_nil ?_ | refine sq_then ?_ | refine sc_seq ?_ | refine sc_region ?_ | refine sw_guard_skip ?_ | refine sw_guard_skip_ ?_ | refine sw_guard_run ?_ | refine sc_cond_true ?_ | refine sc_cond_false ?_ | refine sc_ret ?_ | refine sq_then_ret ?_ | refine sc_skip ?_ | refine sc_block ?_ | refine sq_block ?_ | refine sq_block_ret ?_ | refine sc_exit ?_ | refine sq_then_exit ?_ | refine sq_block_exit ?_ | refine sq_block_past ?_ | refine sq_round_ret ?_ | refine sq_round_exit ?_) | (with_reducible refine sw_guard_split (fun h => ?_) (fun h => ?_)) <;> (try (exfalso; first | contradiction | omega | exact h Iff.rfl)) | (with_reducible refine sc_cond (fun h => ?_) (fun h => ?_)) <;> (try (exfalso; first | contradiction | omega | exact h Iff.rfl)) | (with_reducible refine sw_pick (fun h => ?_) (fun h => ?_)) <;> (try (exfalso; first | contradiction | omega | exact h Iff.rfl)) | fail)
  all_goals refine sq_ret1 Try.results95 ?_
  all_goals refine ⟨_, ⟨?_, rfl⟩, Ent.drop _ _⟩
  all_goals
    congr 1
    unfold Ms.chk
    symm
    first
    | (refine if_pos ?_; unfold Ms.Ok Stamp at *; omega)
    | (refine if_neg ?_; unfold Ms.Ok Stamp at *; omega)

theorem q3Num_nil (k : Nat) (r : HProp) (n : Int) (hn : I64 n) : Spec Try.prog 96 [.slice none 0 0, .int .i64 n] [k] [r]
    fun F w Rs' => ∃ b t, w = .slice (some ⟨b, 0, none⟩) (intB n).length ((intB n).length + t.length) ∧ Rs' = (b, pts b (.cells ((intB n).map (Value.int .u8) ++ t).toArray 5 (0, 0))) :: (k, r) :: F := by
  refine spec_of Try.func96 rfl Try.ntmps96 rfl ?_
  intro w0 F
  have hw := width_in n
  have hil := intB_len n
  repeat' (first | with_reducible (first | refine sw_op ?_ | refine sw_op_ ?_) | with_reducible (first | refine sw_nil ?_ | refine sq_then ?_ | refine sc_seq ?_ | refine sc_region ?_ | refine sw_guard_skip ?_ | refine sw_guard_skip_ ?_ | refine sw_guard_run ?_ | refine sc_cond_true ?_ | refine sc_cond_false ?_ | refine sc_ret ?_ | refine sq_then_ret ?_ | refine sc_skip ?_ | refine sc_block ?_ | refine sq_block ?_ | refine sq_block_ret ?_ | refine sc_exit ?_ | refine sq_then_exit ?_ | refine sq_block_exit ?_ | refine sq_block_past ?_ | refine sq_round_ret ?_ | refine sq_round_exit ?_) | fail)
  refine sw_call (q1Int_ok k r n hn) ?_
  rintro _ _ ⟨b1, t1, rfl, rfl⟩
  repeat' (first | with_reducible (first | refine sw_op ?_ | refine sw_op_ ?_) | with_reducible (first | refine sw_nil ?_ | refine sq_then ?_ | refine sc_seq ?_ | refine sc_region ?_ | refine sw_guard_skip ?_ | refine sw_guard_skip_ ?_ | refine sw_guard_run ?_ | refine sc_cond_true ?_ | refine sc_cond_false ?_ | refine sc_ret ?_ | refine sq_then_ret ?_ | refine sc_skip ?_ | refine sc_block ?_ | refine sq_block ?_ | refine sq_block_ret ?_ | refine sc_exit ?_ | refine sq_then_exit ?_ | refine sq_block_exit ?_ | refine sq_block_past ?_ | refine sq_round_ret ?_ | refine sq_round_exit ?_) | fail)
  refine sw_append_nil (src := (intB n).map (Value.int .u8)) (src_pts (b := b1)) ⟨by omega, by rw [List.length_map], by omega, by omega⟩ fun b3 t3 => ?_
  repeat' (first | with_reducible (first | refine sw_op ?_ | refine sw_op_ ?_) | with_reducible (first | refine sw_nil ?_ | refine sq_then ?_ | refine sc_seq ?_ | refine sc_region ?_ | refine sw_guard_skip ?_ | refine sw_guard_skip_ ?_ | refine sw_guard_run ?_ | refine sc_cond_true ?_ | refine sc_cond_false ?_ | refine sc_ret ?_ | refine sq_then_ret ?_ | refine sc_skip ?_ | refine sc_block ?_ | refine sq_block ?_ | refine sq_block_ret ?_ | refine sc_exit ?_ | refine sq_then_exit ?_ | refine sq_block_exit ?_ | refine sq_block_past ?_ | refine sq_round_ret ?_ | refine sq_round_exit ?_) | fail)
  refine sq_ret1 Try.results96 ?_
  refine ⟨_, ⟨b3, t3, rfl, rfl⟩, ?_⟩
  repeat' (first | with_reducible exact Ent.refl _ | with_reducible refine Ent.take_eq ?_ ?_ | rfl | with_reducible refine Ent.trans (Ent.drop _ _) ?_)
theorem q3Num_own (b : Nat) (t : List Value) (bs : List Int) (n : Int) (hn : I64 n) (hl : bs.length ≤ 70368744177664) : Spec Try.prog 96 [.slice (some ⟨b, 0, none⟩) bs.length (bs.length + t.length), .int .i64 n] [b] [pts b (.cells (bs.map (Value.int .u8) ++ t).toArray 5 (0, 0))]
    fun F w Rs' => ∃ b t, w = .slice (some ⟨b, 0, none⟩) (bs ++ intB n).length ((bs ++ intB n).length + t.length) ∧ Rs' = (b, pts b (.cells ((bs ++ intB n).map (Value.int .u8) ++ t).toArray 5 (0, 0))) :: F := by
  refine spec_of Try.func96 rfl Try.ntmps96 rfl ?_
  intro w0 F
  have hw := width_in n
  have hil := intB_len n
  repeat' (first | with_reducible (first | refine sw_op ?_ | refine sw_op_ ?_) | with_reducible (first | refine sw_nil ?_ | refine sq_then ?_ | refine sc_seq ?_ | refine sc_region ?_ | refine sw_guard_skip ?_ | refine sw_guard_skip_ ?_ | refine sw_guard_run ?_ | refine sc_cond_true ?_ | refine sc_cond_false ?_ | refine sc_ret ?_ | refine sq_then_ret ?_ | refine sc_skip ?_ | refine sc_block ?_ | refine sq_block ?_ | refine sq_block_ret ?_ | refine sc_exit ?_ | refine sq_then_exit ?_ | refine sq_block_exit ?_ | refine sq_block_past ?_ | refine sq_round_ret ?_ | refine sq_round_exit ?_) | fail)
  refine sw_call (q1Int_ok b _ n hn) ?_
  rintro _ _ ⟨b1, t1, rfl, rfl⟩
  repeat' (first | with_reducible (first | refine sw_op ?_ | refine sw_op_ ?_) | with_reducible (first | refine sw_nil ?_ | refine sq_then ?_ | refine sc_seq ?_ | refine sc_region ?_ | refine sw_guard_skip ?_ | refine sw_guard_skip_ ?_ | refine sw_guard_run ?_ | refine sc_cond_true ?_ | refine sc_cond_false ?_ | refine sc_ret ?_ | refine sq_then_ret ?_ | refine sc_skip ?_ | refine sc_block ?_ | refine sq_block ?_ | refine sq_block_ret ?_ | refine sc_exit ?_ | refine sq_then_exit ?_ | refine sq_block_exit ?_ | refine sq_block_past ?_ | refine sq_round_ret ?_ | refine sq_round_exit ?_) | fail)
  refine sw_append (src := (intB n).map (Value.int .u8)) (src_pts (b := b1)) (one_ints _ _) ⟨by omega, by rw [List.length_append, List.length_map], by rw [List.length_map], by omega, by omega⟩ fun b3 t3 => ?_
  rw [List.take_left' (by rw [List.length_map])]
  repeat' (first | with_reducible (first | refine sw_op ?_ | refine sw_op_ ?_) | with_reducible (first | refine sw_nil ?_ | refine sq_then ?_ | refine sc_seq ?_ | refine sc_region ?_ | refine sw_guard_skip ?_ | refine sw_guard_skip_ ?_ | refine sw_guard_run ?_ | refine sc_cond_true ?_ | refine sc_cond_false ?_ | refine sc_ret ?_ | refine sq_then_ret ?_ | refine sc_skip ?_ | refine sc_block ?_ | refine sq_block ?_ | refine sq_block_ret ?_ | refine sc_exit ?_ | refine sq_then_exit ?_ | refine sq_block_exit ?_ | refine sq_block_past ?_ | refine sq_round_ret ?_ | refine sq_round_exit ?_) | fail)
  refine sq_ret1 Try.results96 ?_
  refine ⟨_, ⟨b3, t3, ?_, rfl⟩, ?_⟩
  · rw [List.length_append]
  · simp only [List.map_append]
    repeat' (first | with_reducible exact Ent.refl _ | with_reducible refine Ent.take_eq ?_ ?_ | rfl | with_reducible refine Ent.trans (Ent.drop _ _) ?_)
end Go.Gsl
