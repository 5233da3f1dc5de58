/- MasterNext. -/
import Derived.Test.YtbmdaiopnnmamaaGreatGM
namespace Go.Gsl
set_option linter.unusedVariables false
open Go.Proofs Go.RowKit

theorem r20Place_ok (a : Int) (m : Ms) (hm : 0 ≤ m.seq) (ha : -4611686018427387904 ≤ a ∧ a ≤ 4611686018427387904) : Spec Tryz.prog 70 [.int .i64 a, .agg m.cs.toArray] [] [] fun F v Rs' => v = .int .i64 (m.place a) ∧ Rs' = F := by
  refine spec_of Tryz.func70 rfl Tryz.ntmps70 rfl ?_
  intro w0 F
  repeat' (first | with_reducible (first | refine sw_op ?_ | refine sw_op_ ?_) | with_reducible (first | refine sw_nil ?_ | refine sq_then ?_ | refine sc_seq ?_ | refine sc_region ?_ | refine sw_guard_skip ?_ | refine sw_guard_skip_ ?_ | refine sw_guard_run ?_ | refine sc_cond_true ?_ | refine sc_cond_false ?_ | refine sc_ret ?_ | refine sq_then_ret ?_ | refine sc_skip ?_ | refine sc_block ?_ | refine sq_block ?_ | refine sq_block_ret ?_ | refine sc_exit ?_ | refine sq_then_exit ?_ | refine sq_block_exit ?_ | refine sq_block_past ?_ | refine sq_round_ret ?_ | refine sq_round_exit ?_) | fail)
  refine sw_box fun b1 => ?_
  repeat' (first | with_reducible (first | refine sw_rem_nn (by omega) ?_ | refine sw_in (by omega) ?_ | refine sw_op ?_ | refine sw_op_ ?_) | with_reducible (first | refine sw_nil ?_ | refine sq_then ?_ | refine sc_seq ?_ | refine sc_region ?_ | refine sw_guard_skip ?_ | refine sw_guard_skip_ ?_ | refine sw_guard_run ?_ | refine sc_cond_true ?_ | refine sc_cond_false ?_ | refine sc_ret ?_ | refine sq_then_ret ?_ | refine sc_skip ?_ | refine sc_block ?_ | refine sq_block ?_ | refine sq_block_ret ?_ | refine sc_exit ?_ | refine sq_then_exit ?_ | refine sq_block_exit ?_ | refine sq_block_past ?_ | refine sq_round_ret ?_ | refine sq_round_exit ?_) | (with_reducible refine sc_cond (fun h => ?_) (fun h => ?_)) <;> (try (exfalso; first | contradiction | omega | exact h Iff.rfl)) | fail)
  · refine sq_ret1 Tryz.results70 ?_
    refine ⟨_, ⟨?_, rfl⟩, Ent.drop _ _⟩
    unfold Ms.place
    rw [show m.seq % 2 = 0 from by omega, Int.add_zero]
  · refine sq_ret1 Tryz.results70 ?_
    refine ⟨_, ⟨?_, rfl⟩, Ent.drop _ _⟩
    unfold Ms.place
    rw [show m.seq % 2 = 1 from by omega]

/-- a place from 0 on -/
def pl (a : Int) : Int := if a < 0 ∨ 16384 < a then 0 else a
theorem pl_in (a : Int) : 0 ≤ pl a ∧ pl a ≤ 16384 := by unfold pl; split <;> omega
theorem l20place_ok (a : Int) : Spec Tryz.prog 8 [.int .i64 a] [] [] fun F v Rs' => v = .int .i64 (pl a) ∧ Rs' = F := by
  refine spec_of Tryz.func8 rfl Tryz.ntmps8 rfl ?_
  intro w0 F
  unfold pl
  repeat' (first | with_reducible (first | refine sw_op ?_ | refine sw_op_ ?_) | with_reducible refine sw_guard_skip_u ?_ | with_reducible (first | refine sw_nil ?_ | refine sq_then ?_ | refine sc_seq ?_ | refine sc_region ?_ | refine sw_guard_skip ?_ | refine sw_guard_skip_ ?_ | refine sw_guard_run ?_ | refine sc_cond_true ?_ | refine sc_cond_false ?_ | refine sc_ret ?_ | refine sq_then_ret ?_ | refine sc_skip ?_ | refine sc_block ?_ | refine sq_block ?_ | refine sq_block_ret ?_ | refine sc_exit ?_ | refine sq_then_exit ?_ | refine sq_block_exit ?_ | refine sq_block_past ?_ | refine sq_round_ret ?_ | refine sq_round_exit ?_) | (with_reducible refine sw_guard_split (fun h => ?_) (fun h => ?_)) <;> (try (exfalso; first | contradiction | omega | exact h Iff.rfl)) | (with_reducible refine sc_cond (fun h => ?_) (fun h => ?_)) <;> (try (exfalso; first | contradiction | omega | exact h Iff.rfl)) | (with_reducible refine sw_pick (fun h => ?_) (fun h => ?_)) <;> (try (exfalso; first | contradiction | omega | exact h Iff.rfl)) | fail)
  · refine sq_ret1 Tryz.results8 ?_
    exact ⟨_, ⟨by rw [if_pos (by omega)], rfl⟩, Ent.refl _⟩
  · refine sq_ret1 Tryz.results8 ?_
    exact ⟨_, ⟨by rw [if_pos (by omega)], rfl⟩, Ent.refl _⟩
  · refine sq_ret1 Tryz.results8 ?_
    exact ⟨_, ⟨by rw [if_neg (by omega)], rfl⟩, Ent.refl _⟩

theorem Ms.beq_refl (x : Ms) : x.beq x = true := (Ms.beq_iff x x).2 rfl

end Go.Gsl
