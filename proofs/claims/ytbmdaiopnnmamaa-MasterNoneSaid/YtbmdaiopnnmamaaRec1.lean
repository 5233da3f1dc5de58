/- Masters: what they may be, their bytes. -/
import Derived.Test.YtbmdaiopnnmamaaCodec5
import Derived.Test.YtbmdaiopnnmamaaGsl21
namespace Go.Gsl
set_option linter.unusedVariables false
open Go.Proofs

/-- a master -/
structure Ms where
  seq : Int
  area : Int
  chunks : Int
  ts : Int
  sector : Int
  offset : Int
  number : Int
  run : Int
def I64 (x : Int) : Prop := -9223372036854775808 ≤ x ∧ x ≤ 9223372036854775807
def Ms.l (m : Ms) : List Int := [m.seq, m.area, m.chunks, m.ts, m.sector, m.offset, m.number, m.run]
abbrev Ms.cs (m : Ms) : List Value := [.int .i64 m.seq, .int .i64 m.area, .int .i64 m.chunks, .int .i64 m.ts, .int .i64 m.sector, .int .i64 m.offset, .int .i64 m.number, .int .i64 m.run]
def Ms.zero : Ms := ⟨0, 0, 0, 0, 0, 0, 0, 0⟩
def Ms.In (m : Ms) : Prop := ∀ x ∈ m.l, I64 x
def Stamp (x least : Int) : Prop := least ≤ x ∧ x ≤ 1099511627776
instance (x l : Int) : Decidable (Stamp x l) := inferInstanceAs (Decidable (_ ∧ _))
def Ms.Ok (m : Ms) : Prop := Stamp m.seq 1 ∧ (m.area = 0 ∨ m.area = 1) ∧ (1 ≤ m.chunks ∧ m.chunks ≤ 4096) ∧ Stamp m.ts 0 ∧ Stamp m.sector 0 ∧ (0 ≤ m.offset ∧ m.offset < 512) ∧ Stamp m.number 0 ∧ Stamp m.run 0
instance (m : Ms) : Decidable m.Ok := inferInstanceAs (Decidable (_ ∧ _))
def Ms.chk (m : Ms) : Int := if m.Ok then 0 else 32

theorem rcStamp_ok (x l : Int) : Spec Try.prog 157 [.int .i64 x, .int .i64 l] [] [] fun F v Rs' => v = .bool (decide (Stamp x l)) ∧ Rs' = F := by
  refine spec_of Try.func157 rfl Try.ntmps157 rfl ?_
  intro w0 F
  repeat' (first | with_reducible (first | refine sw_op ?_ | refine sw_op_ ?_) | with_reducible (first | refine sw_nil ?_ | refine sq_then ?_ | refine sc_seq ?_ | refine sc_region ?_ | refine sw_guard_skip ?_ | refine sw_guard_skip_ ?_ | refine sw_guard_run ?_ | refine sc_cond_true ?_ | refine sc_cond_false ?_ | refine sc_ret ?_ | refine sq_then_ret ?_ | refine sc_skip ?_ | refine sc_block ?_ | refine sq_block ?_ | refine sq_block_ret ?_ | refine sc_exit ?_ | refine sq_then_exit ?_ | refine sq_block_exit ?_ | refine sq_block_past ?_ | refine sq_round_ret ?_ | refine sq_round_exit ?_) | (with_reducible refine sc_cond (fun h => ?_) (fun h => ?_)) <;> (try (exfalso; first | contradiction | omega | exact h Iff.rfl)) | (with_reducible refine sw_guard_split (fun h => ?_) (fun h => ?_)) <;> (try (exfalso; first | contradiction | omega | exact h Iff.rfl)) | (with_reducible refine sw_pick (fun h => ?_) (fun h => ?_)) <;> (try (exfalso; first | contradiction | omega | exact h Iff.rfl)) | fail)
  · refine sq_ret1 Try.results157 ?_
    exact ⟨_, ⟨by congr 1; simp [Stamp, h], rfl⟩, Ent.refl _⟩
  · refine sq_ret1 Try.results157 ?_
    exact ⟨_, ⟨by congr 1; simp [Stamp, h], rfl⟩, Ent.refl _⟩
theorem rcField_ok (b : Bool) : Spec Try.prog 156 [.bool b] [] [] fun F v Rs' => v = .int .i64 (if b then 0 else 32) ∧ Rs' = F := by
  refine spec_of Try.func156 rfl Try.ntmps156 rfl ?_
  intro w0 F
  repeat' (first | with_reducible (first | refine sw_op ?_ | refine sw_op_ ?_) | with_reducible (first | refine sw_nil ?_ | refine sq_then ?_ | refine sc_seq ?_ | refine sc_region ?_ | refine sw_guard_skip ?_ | refine sw_guard_skip_ ?_ | refine sw_guard_run ?_ | refine sc_cond_true ?_ | refine sc_cond_false ?_ | refine sc_ret ?_ | refine sq_then_ret ?_ | refine sc_skip ?_ | refine sc_block ?_ | refine sq_block ?_ | refine sq_block_ret ?_ | refine sc_exit ?_ | refine sq_then_exit ?_ | refine sq_block_exit ?_ | refine sq_block_past ?_ | refine sq_round_ret ?_ | refine sq_round_exit ?_) | (with_reducible refine sc_cond (fun h => ?_) (fun h => ?_)) <;> (try (exfalso; first | contradiction | omega | exact h Iff.rfl)) | fail)
  · refine sq_ret1 Try.results156 ?_
    exact ⟨_, ⟨by rw [if_pos h], rfl⟩, Ent.refl _⟩
  · refine sq_ret1 Try.results156 ?_
    exact ⟨_, ⟨by rw [if_neg h], rfl⟩, Ent.refl _⟩

set_option maxHeartbeats 1000000 in
theorem rcCheckMaster_ok (m : Ms) : Spec Try.prog 155 [.agg m.cs.toArray] [] [] fun F v Rs' => v = .int .i64 m.chk ∧ Rs' = F := by
  refine spec_of Try.func155 rfl Try.ntmps155 rfl ?_
  intro w0 F
  repeat' (first | with_reducible (first | refine sw_op ?_ | refine sw_op_ ?_) | with_reducible (first | refine sw_nil ?_ | refine sq_then ?_ | refine sc_seq ?_ | refine sc_region ?_ | refine sw_guard_skip ?_ | refine sw_guard_skip_ ?_ | refine sw_guard_run ?_ | refine sc_cond_true ?_ | refine sc_cond_false ?_ | refine sc_ret ?_ | refine sq_then_ret ?_ | refine sc_skip ?_ | refine sc_block ?_ | refine sq_block ?_ | refine sq_block_ret ?_ | refine sc_exit ?_ | refine sq_then_exit ?_ | refine sq_block_exit ?_ | refine sq_block_past ?_ | refine sq_round_ret ?_ | refine sq_round_exit ?_) | fail)
  refine sw_box fun b1 => ?_
  repeat' (first | with_reducible (first | refine sw_op ?_ | refine sw_op_ ?_) | with_reducible (first | refine sw_nil ?_ | refine sq_then ?_ | refine sc_seq ?_ | refine sc_region ?_ | refine sw_guard_skip ?_ | refine sw_guard_skip_ ?_ | refine sw_guard_run ?_ | refine sc_cond_true ?_ | refine sc_cond_false ?_ | refine sc_ret ?_ | refine sq_then_ret ?_ | refine sc_skip ?_ | refine sc_block ?_ | refine sq_block ?_ | refine sq_block_ret ?_ | refine sc_exit ?_ | refine sq_then_exit ?_ | refine sq_block_exit ?_ | refine sq_block_past ?_ | refine sq_round_ret ?_ | refine sq_round_exit ?_) | fail)
  refine sw_loadPart [.int .i64 m.sector, .int .i64 m.offset, .int .i64 m.number, .int .i64 m.run] rfl rfl ?_
  refine sw_alloc fun b2 => ?_
  refine sw_store_agg ?_
  repeat' (first | with_reducible (first | refine sw_op ?_ | refine sw_op_ ?_) | with_reducible refine sw_guard_skip_u ?_ | ((with_reducible refine sw_call (rcStamp_ok _ _) ?_); rintro _ _ ⟨rfl, rfl⟩) | ((with_reducible refine sw_call (rcField_ok _) ?_); rintro _ _ ⟨rfl, rfl⟩) | with_reducible (first | refine sw_nil ?_ | refine sq_then ?_ | refine sc_seq ?_ | refine sc_region ?_ | refine sw_guard_skip ?_ | refine sw_guard_skip_ ?_ | refine sw_guard_run ?_ | refine sc_cond_true ?_ | refine sc_cond_false ?_ | refine sc_ret ?_ | refine sq_then_ret ?_ | refine sc_skip ?_ | refine sc_block ?_ | refine sq_block ?_ | refine sq_block_ret ?_ | refine sc_exit ?_ | refine sq_then_exit ?_ | refine sq_block_exit ?_ | refine sq_block_past ?_ | refine sq_round_ret ?_ | refine sq_round_exit ?_) | (with_reducible refine sw_guard_split (fun h => ?_) (fun h => ?_)) <;> (try (exfalso; first | contradiction | omega | exact h Iff.rfl)) | (with_reducible refine sc_cond (fun h => ?_) (fun h => ?_)) <;> (try (exfalso; first | contradiction | omega | exact h Iff.rfl)) | (with_reducible refine sw_pick (fun h => ?_) (fun h => ?_)) <;> (try (exfalso; first | contradiction | omega | exact h Iff.rfl)) | fail)
  all_goals refine sq_ret1 Try.results155 ?_
  all_goals refine ⟨_, ⟨?_, rfl⟩, (Ent.drop _ _).trans (Ent.drop _ _)⟩
  all_goals
    congr 1
    unfold Ms.chk Ms.Ok
    first
    | (simp only [*, true_or, or_true, and_true, true_and, decide_eq_true_eq]; done)
    | (simp [*]; done)

instance : Meth Try.prog 135 "cresset/record.check" 153 := Meth.of Try.underlying135 (by kernel_rfl)
instance : Meth Try.prog 135 "cresset/record.put" 154 := Meth.of Try.underlying135 (by kernel_rfl)

theorem rcCheck_ok (m : Ms) : Spec Try.prog 153 [.agg m.cs.toArray] [] [] fun F v Rs' => v = .int .i64 m.chk ∧ Rs' = F := by
  refine spec_of Try.func153 rfl Try.ntmps153 rfl ?_
  intro w0 F
  repeat' (first | with_reducible (first | refine sw_op ?_ | refine sw_op_ ?_) | with_reducible (first | refine sw_nil ?_ | refine sq_then ?_ | refine sc_seq ?_ | refine sc_region ?_ | refine sw_guard_skip ?_ | refine sw_guard_skip_ ?_ | refine sw_guard_run ?_ | refine sc_cond_true ?_ | refine sc_cond_false ?_ | refine sc_ret ?_ | refine sq_then_ret ?_ | refine sc_skip ?_ | refine sc_block ?_ | refine sq_block ?_ | refine sq_block_ret ?_ | refine sc_exit ?_ | refine sq_then_exit ?_ | refine sq_block_exit ?_ | refine sq_block_past ?_ | refine sq_round_ret ?_ | refine sq_round_exit ?_) | fail)
  refine sw_box fun b1 => ?_
  repeat' (first | with_reducible (first | refine sw_op ?_ | refine sw_op_ ?_) | ((with_reducible refine sw_call (rcCheckMaster_ok m) ?_); rintro _ _ ⟨rfl, rfl⟩) | with_reducible (first | refine sw_nil ?_ | refine sq_then ?_ | refine sc_seq ?_ | refine sc_region ?_ | refine sw_guard_skip ?_ | refine sw_guard_skip_ ?_ | refine sw_guard_run ?_ | refine sc_cond_true ?_ | refine sc_cond_false ?_ | refine sc_ret ?_ | refine sq_then_ret ?_ | refine sc_skip ?_ | refine sc_block ?_ | refine sq_block ?_ | refine sq_block_ret ?_ | refine sc_exit ?_ | refine sq_then_exit ?_ | refine sq_block_exit ?_ | refine sq_block_past ?_ | refine sq_round_ret ?_ | refine sq_round_exit ?_) | fail)
  refine sq_ret1 Try.results153 ?_
  exact ⟨_, ⟨rfl, rfl⟩, Ent.drop _ _⟩

/-- a list's ints, one behind the other -/
def intsB (l : List Int) : List Int := l.flatMap intB
theorem intsB_byt (l : List Int) : Byt (intsB l) := fun x hx => by
  obtain ⟨y, _, hy⟩ := List.mem_flatMap.1 hx
  exact intB_byt y x hy
theorem intsB_len (l : List Int) : (intsB l).length ≤ 9 * l.length := by
  induction l with
  | nil => simp [intsB]
  | cons a l ih =>
    have h1 := intB_len a
    have h2 := width_in a
    have h3 : intsB (a :: l) = intB a ++ intsB l := rfl
    rw [h3, List.length_append, List.length_cons]
    omega
theorem intsB_snoc (l : List Int) (a : Int) : intsB (l ++ [a]) = intsB l ++ intB a := by unfold intsB; simp

def Ms.b (m : Ms) : List Int := intsB m.l

end Go.Gsl
