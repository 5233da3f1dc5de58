/- Masters' sectors. -/
import Derived.Test.YtbmdaiopnnmamaaRec4
namespace Go.Gsl
set_option linter.unusedVariables false
open Go.Proofs

instance : Cells (.agg Try.zeroCells108) (List.replicate 512 (.int .u8 0)) := ⟨by kernel_rfl⟩

theorem Ms.b_len (m : Ms) : m.b.length ≤ 72 := intsB_len m.l
theorem Ms.b_byt (m : Ms) : Byt m.b := intsB_byt _
/-- a master's sector -/
def Ms.sec (m : Ms) : List Int := frame m.b ++ List.replicate (512 - (frame m.b).length) 0
theorem Ms.frame_len (m : Ms) : (frame m.b).length = m.b.length + 5 := by
  have h1 := m.b_len
  have h2 : width (m.b.length : Int) = 1 := by unfold width; rw [if_neg (by omega), if_neg (by omega)]
  rw [Go.Gsl.frame_len, h2]
  omega
theorem Ms.sec_len (m : Ms) : m.sec.length = 512 := by
  have h1 := m.b_len
  have h2 := m.frame_len
  unfold Ms.sec
  rw [List.length_append, List.length_replicate]
  omega
theorem Ms.sec_byt (m : Ms) : Byt m.sec := (frame_byt m.b_byt).app fun x hx => by rw [List.eq_of_mem_replicate hx]; omega

theorem mSector_ok (k : Nat) (r : HProp) (m : Ms) (hm : m.In) : Spec Try.prog 18 [.agg m.cs.toArray] [k] [r]
    fun F w Rs' => (m.chk ≠ 0 ∧ w = .tuple #[.slice none 0 0, .int .i64 m.chk] ∧ Rs' = (k, r) :: F) ∨ (m.chk = 0 ∧ ∃ b, w = .tuple #[.slice (some ⟨b, 0, none⟩) 512 512, .int .i64 0] ∧ Rs' = (b, pts b (.cells (m.sec.map (Value.int .u8)).toArray 108 (0, 0))) :: (k, r) :: F) := by
  refine spec_of Try.func18 rfl Try.ntmps18 rfl ?_
  intro w0 F
  have hbl := m.b_len
  have hfl := m.frame_len
  repeat' (first | with_reducible (first | refine sw_op ?_ | refine sw_op_ ?_) | with_reducible (first | refine sw_nil ?_ | refine sq_then ?_ | refine sc_seq ?_ | refine sc_region ?_ | refine sw_guard_skip ?_ | refine sw_guard_skip_ ?_ | refine sw_guard_run ?_ | refine sc_cond_true ?_ | refine sc_cond_false ?_ | refine sc_ret ?_ | refine sq_then_ret ?_ | refine sc_skip ?_ | refine sc_block ?_ | refine sq_block ?_ | refine sq_block_ret ?_ | refine sc_exit ?_ | refine sq_then_exit ?_ | refine sq_block_exit ?_ | refine sq_block_past ?_ | refine sq_round_ret ?_ | refine sq_round_exit ?_) | fail)
  refine sw_box fun b1 => ?_
  repeat' (first | with_reducible (first | refine sw_op ?_ | refine sw_op_ ?_) | with_reducible (first | refine sw_nil ?_ | refine sq_then ?_ | refine sc_seq ?_ | refine sc_region ?_ | refine sw_guard_skip ?_ | refine sw_guard_skip_ ?_ | refine sw_guard_run ?_ | refine sc_cond_true ?_ | refine sc_cond_false ?_ | refine sc_ret ?_ | refine sq_then_ret ?_ | refine sc_skip ?_ | refine sc_block ?_ | refine sq_block ?_ | refine sq_block_ret ?_ | refine sc_exit ?_ | refine sq_then_exit ?_ | refine sq_block_exit ?_ | refine sq_block_past ?_ | refine sq_round_ret ?_ | refine sq_round_exit ?_) | fail)
  refine sw_call (rcMaster_ok k r m hm) ?_
  rintro _ _ (⟨h, rfl, rfl⟩ | ⟨h, b, t, rfl, rfl⟩)
  · repeat' (first | with_reducible (first | refine sw_op ?_ | refine sw_op_ ?_) | with_reducible (first | refine sw_nil ?_ | refine sq_then ?_ | refine sc_seq ?_ | refine sc_region ?_ | refine sw_guard_skip ?_ | refine sw_guard_skip_ ?_ | refine sw_guard_run ?_ | refine sc_cond_true ?_ | refine sc_cond_false ?_ | refine sc_ret ?_ | refine sq_then_ret ?_ | refine sc_skip ?_ | refine sc_block ?_ | refine sq_block ?_ | refine sq_block_ret ?_ | refine sc_exit ?_ | refine sq_then_exit ?_ | refine sq_block_exit ?_ | refine sq_block_past ?_ | refine sq_round_ret ?_ | refine sq_round_exit ?_) | (with_reducible refine sc_cond (fun h => ?_) (fun h => ?_)) <;> (try (exfalso; first | contradiction | omega | exact h Iff.rfl)) | fail)
    refine sq_ret2 Try.results18 ?_
    refine ⟨_, .inl ⟨h, rfl, rfl⟩, ?_⟩
    repeat' (first | with_reducible exact Ent.refl _ | with_reducible refine Ent.take_eq ?_ ?_ | rfl | with_reducible refine Ent.trans (Ent.drop _ _) ?_)
  · repeat' (first | with_reducible (first | refine sw_op ?_ | refine sw_op_ ?_) | with_reducible (first | refine sw_nil ?_ | refine sq_then ?_ | refine sc_seq ?_ | refine sc_region ?_ | refine sw_guard_skip ?_ | refine sw_guard_skip_ ?_ | refine sw_guard_run ?_ | refine sc_cond_true ?_ | refine sc_cond_false ?_ | refine sc_ret ?_ | refine sq_then_ret ?_ | refine sc_skip ?_ | refine sc_block ?_ | refine sq_block ?_ | refine sq_block_ret ?_ | refine sc_exit ?_ | refine sq_then_exit ?_ | refine sq_block_exit ?_ | refine sq_block_past ?_ | refine sq_round_ret ?_ | refine sq_round_exit ?_) | (with_reducible refine sc_cond (fun h => ?_) (fun h => ?_)) <;> (try (exfalso; first | contradiction | omega | exact h Iff.rfl)) | fail)
    refine sw_call (cFrame_ok b _ _ m.b RdB.own m.b_byt (by omega)) ?_
    rintro _ _ (⟨h2, _, _⟩ | ⟨_, b2, t2, rfl, rfl⟩)
    · exfalso; omega
    repeat' (first | with_reducible (first | refine sw_op ?_ | refine sw_op_ ?_) | with_reducible (first | refine sw_nil ?_ | refine sq_then ?_ | refine sc_seq ?_ | refine sc_region ?_ | refine sw_guard_skip ?_ | refine sw_guard_skip_ ?_ | refine sw_guard_run ?_ | refine sc_cond_true ?_ | refine sc_cond_false ?_ | refine sc_ret ?_ | refine sq_then_ret ?_ | refine sc_skip ?_ | refine sc_block ?_ | refine sq_block ?_ | refine sq_block_ret ?_ | refine sc_exit ?_ | refine sq_then_exit ?_ | refine sq_block_exit ?_ | refine sq_block_past ?_ | refine sq_round_ret ?_ | refine sq_round_exit ?_) | (with_reducible refine sc_cond (fun h => ?_) (fun h => ?_)) <;> (try (exfalso; first | contradiction | omega | exact h Iff.rfl)) | fail)
    refine sw_alloc fun b3 => ?_
    repeat' (first | with_reducible (first | refine sw_op ?_ | refine sw_op_ ?_) | with_reducible (first | refine sw_nil ?_ | refine sq_then ?_ | refine sc_seq ?_ | refine sc_region ?_ | refine sw_guard_skip ?_ | refine sw_guard_skip_ ?_ | refine sw_guard_run ?_ | refine sc_cond_true ?_ | refine sc_cond_false ?_ | refine sc_ret ?_ | refine sq_then_ret ?_ | refine sc_skip ?_ | refine sc_block ?_ | refine sq_block ?_ | refine sq_block_ret ?_ | refine sc_exit ?_ | refine sq_then_exit ?_ | refine sq_block_exit ?_ | refine sq_block_past ?_ | refine sq_round_ret ?_ | refine sq_round_exit ?_) | fail)
    refine sw_sliceA ?_
    repeat' (first | with_reducible (first | refine sw_op ?_ | refine sw_op_ ?_) | with_reducible (first | refine sw_nil ?_ | refine sq_then ?_ | refine sc_seq ?_ | refine sc_region ?_ | refine sw_guard_skip ?_ | refine sw_guard_skip_ ?_ | refine sw_guard_run ?_ | refine sc_cond_true ?_ | refine sc_cond_false ?_ | refine sc_ret ?_ | refine sq_then_ret ?_ | refine sc_skip ?_ | refine sc_block ?_ | refine sq_block ?_ | refine sq_block_ret ?_ | refine sc_exit ?_ | refine sq_then_exit ?_ | refine sq_block_exit ?_ | refine sq_block_past ?_ | refine sq_round_ret ?_ | refine sq_round_exit ?_) | fail)
    refine sw_copyT ((frame m.b).map (Value.int .u8)) (src_pts (b := b2)) (one_ints _ _) ⟨by rw [List.length_map]; omega, by rw [List.length_map, List.length_replicate]; omega⟩ ?_
    have e1 : (List.replicate 512 (Value.int .u8 0)).take 0 ++ (frame m.b).map (Value.int .u8) ++ (List.replicate 512 (Value.int .u8 0)).drop (0 + ((frame m.b).map (Value.int .u8)).length) = m.sec.map (Value.int .u8) := by
      unfold Ms.sec
      rw [List.take_zero, List.nil_append, List.drop_replicate, Nat.zero_add, List.length_map, List.map_append, List.map_replicate]
    rw [e1]
    repeat' (first | with_reducible (first | refine sw_op ?_ | refine sw_op_ ?_) | with_reducible (first | refine sw_nil ?_ | refine sq_then ?_ | refine sc_seq ?_ | refine sc_region ?_ | refine sw_guard_skip ?_ | refine sw_guard_skip_ ?_ | refine sw_guard_run ?_ | refine sc_cond_true ?_ | refine sc_cond_false ?_ | refine sc_ret ?_ | refine sq_then_ret ?_ | refine sc_skip ?_ | refine sc_block ?_ | refine sq_block ?_ | refine sq_block_ret ?_ | refine sc_exit ?_ | refine sq_then_exit ?_ | refine sq_block_exit ?_ | refine sq_block_past ?_ | refine sq_round_ret ?_ | refine sq_round_exit ?_) | fail)
    refine sw_sliceA ?_
    repeat' (first | with_reducible (first | refine sw_op ?_ | refine sw_op_ ?_) | with_reducible (first | refine sw_nil ?_ | refine sq_then ?_ | refine sc_seq ?_ | refine sc_region ?_ | refine sw_guard_skip ?_ | refine sw_guard_skip_ ?_ | refine sw_guard_run ?_ | refine sc_cond_true ?_ | refine sc_cond_false ?_ | refine sc_ret ?_ | refine sq_then_ret ?_ | refine sc_skip ?_ | refine sc_block ?_ | refine sq_block ?_ | refine sq_block_ret ?_ | refine sc_exit ?_ | refine sq_then_exit ?_ | refine sq_block_exit ?_ | refine sq_block_past ?_ | refine sq_round_ret ?_ | refine sq_round_exit ?_) | fail)
    refine sq_ret2 Try.results18 ?_
    refine ⟨_, .inr ⟨h, b3, rfl, rfl⟩, ?_⟩
    repeat' (first | with_reducible exact Ent.refl _ | with_reducible refine Ent.take_eq ?_ ?_ | rfl | with_reducible refine Ent.trans (Ent.drop _ _) ?_)

/-- where a master stands -/
def Ms.place (at' : Int) (m : Ms) : Int := at' + m.seq % 2
end Go.Gsl
