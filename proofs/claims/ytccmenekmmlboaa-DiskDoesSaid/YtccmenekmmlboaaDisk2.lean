/- Clones; bytes.Repeat, bytes.Equal; a sector. -/
import Derived.Test.YtccmenekmmlboaaDisk1
import Derived.Test.YtccmenekmmlboaaGsl12
namespace Go.Gsl
set_option linter.unusedVariables false
open Go.Proofs

/-- slices.Clone -/
theorem clB_ok (k : Nat) (r : HProp) (a : Option Addr) (m c : Nat) (src : List Value) (hr : Reads r a src) (h1 : ∀ v ∈ src, v.oneCell' = true) (hl : src.length = m) (hm : m ≤ 140737488355328) :
    Spec Try.prog 73 [.slice a m c] [k] [r] fun F v Rs' => (a = none ∧ v = .slice none 0 0 ∧ Rs' = (k, r) :: F) ∨
      (a ≠ none ∧ ∃ b t, v = .slice (some ⟨b, 0, none⟩) m (m + t.length) ∧ Rs' = (b, pts b (.cells (src ++ t).toArray 5 (0, 0))) :: (k, r) :: F) := by
  refine spec_of Try.func73 rfl Try.ntmps73 rfl ?_
  intro w0 F
  repeat' (first | with_reducible refine sw_op ?_ | with_reducible refine sw_op_ ?_ | with_reducible refine sw_nil ?_ | with_reducible refine sq_then ?_ | with_reducible refine sc_seq ?_ | with_reducible refine sc_region ?_ | with_reducible refine sw_guard_skip ?_ | with_reducible refine sw_guard_skip_ ?_ | with_reducible refine sw_guard_run ?_ | with_reducible refine sc_cond_true ?_ | with_reducible refine sc_cond_false ?_ | with_reducible refine sc_ret ?_ | with_reducible refine sq_then_ret ?_ | with_reducible refine sc_skip ?_ | with_reducible refine sc_block ?_ | with_reducible refine sq_block ?_ | with_reducible refine sq_block_ret ?_ | with_reducible refine sc_exit ?_ | with_reducible refine sq_then_exit ?_ | with_reducible refine sq_block_exit ?_ | with_reducible refine sq_block_past ?_ | with_reducible refine sq_round_ret ?_ | with_reducible refine sq_round_exit ?_ | (with_reducible refine sc_cond (fun h => ?_) (fun h => ?_)) <;> (try (exfalso; first | contradiction | omega | exact h Iff.rfl)) | fail)
  · refine sq_ret1 Try.results73 ?_
    exact ⟨_, .inl ⟨by simpa using h, rfl, rfl⟩, Ent.refl _⟩
  · refine sw_buildSlice [] (by omega) rfl fun b0 => ?_
    repeat' (first | with_reducible refine sw_op ?_ | with_reducible refine sw_op_ ?_ | with_reducible refine sw_nil ?_ | with_reducible refine sq_then ?_ | with_reducible refine sc_seq ?_ | with_reducible refine sc_region ?_ | with_reducible refine sw_guard_skip ?_ | with_reducible refine sw_guard_skip_ ?_ | with_reducible refine sw_guard_run ?_ | with_reducible refine sc_cond_true ?_ | with_reducible refine sc_cond_false ?_ | with_reducible refine sc_ret ?_ | with_reducible refine sq_then_ret ?_ | with_reducible refine sc_skip ?_ | with_reducible refine sc_block ?_ | with_reducible refine sq_block ?_ | with_reducible refine sq_block_ret ?_ | with_reducible refine sc_exit ?_ | with_reducible refine sq_then_exit ?_ | with_reducible refine sq_block_exit ?_ | with_reducible refine sq_block_past ?_ | with_reducible refine sq_round_ret ?_ | with_reducible refine sq_round_exit ?_ | fail)
    refine sw_append (src := src) ?_ h1 ?_ fun b t => ?_
    · exact fun w hw => hr.sat (k := k) hw
    · exact ⟨by omega, rfl, hl, by omega, by omega⟩
    simp only [Nat.zero_add, List.take_nil, List.nil_append]
    repeat' (first | with_reducible refine sw_op ?_ | with_reducible refine sw_op_ ?_ | with_reducible refine sw_nil ?_ | with_reducible refine sq_then ?_ | with_reducible refine sc_seq ?_ | with_reducible refine sc_region ?_ | with_reducible refine sw_guard_skip ?_ | with_reducible refine sw_guard_skip_ ?_ | with_reducible refine sw_guard_run ?_ | with_reducible refine sc_cond_true ?_ | with_reducible refine sc_cond_false ?_ | with_reducible refine sc_ret ?_ | with_reducible refine sq_then_ret ?_ | with_reducible refine sc_skip ?_ | with_reducible refine sc_block ?_ | with_reducible refine sq_block ?_ | with_reducible refine sq_block_ret ?_ | with_reducible refine sc_exit ?_ | with_reducible refine sq_then_exit ?_ | with_reducible refine sq_block_exit ?_ | with_reducible refine sq_block_past ?_ | with_reducible refine sq_round_ret ?_ | with_reducible refine sq_round_exit ?_ | fail)
    refine sq_ret1 Try.results73 ?_
    exact ⟨_, .inr ⟨by simpa using h, b, t, rfl, rfl⟩, Ent.refl _⟩
/-- slices.Clone -/
theorem clBool_ok (k : Nat) (r : HProp) (a : Option Addr) (m c : Nat) (src : List Value) (hr : Reads r a src) (h1 : ∀ v ∈ src, v.oneCell' = true) (hl : src.length = m) (hm : m ≤ 140737488355328) :
    Spec Try.prog 77 [.slice a m c] [k] [r] fun F v Rs' => (a = none ∧ v = .slice none 0 0 ∧ Rs' = (k, r) :: F) ∨
      (a ≠ none ∧ ∃ b t, v = .slice (some ⟨b, 0, none⟩) m (m + t.length) ∧ Rs' = (b, pts b (.cells (src ++ t).toArray 4 (0, 0))) :: (k, r) :: F) := by
  refine spec_of Try.func77 rfl Try.ntmps77 rfl ?_
  intro w0 F
  repeat' (first | with_reducible refine sw_op ?_ | with_reducible refine sw_op_ ?_ | with_reducible refine sw_nil ?_ | with_reducible refine sq_then ?_ | with_reducible refine sc_seq ?_ | with_reducible refine sc_region ?_ | with_reducible refine sw_guard_skip ?_ | with_reducible refine sw_guard_skip_ ?_ | with_reducible refine sw_guard_run ?_ | with_reducible refine sc_cond_true ?_ | with_reducible refine sc_cond_false ?_ | with_reducible refine sc_ret ?_ | with_reducible refine sq_then_ret ?_ | with_reducible refine sc_skip ?_ | with_reducible refine sc_block ?_ | with_reducible refine sq_block ?_ | with_reducible refine sq_block_ret ?_ | with_reducible refine sc_exit ?_ | with_reducible refine sq_then_exit ?_ | with_reducible refine sq_block_exit ?_ | with_reducible refine sq_block_past ?_ | with_reducible refine sq_round_ret ?_ | with_reducible refine sq_round_exit ?_ | (with_reducible refine sc_cond (fun h => ?_) (fun h => ?_)) <;> (try (exfalso; first | contradiction | omega | exact h Iff.rfl)) | fail)
  · refine sq_ret1 Try.results77 ?_
    exact ⟨_, .inl ⟨by simpa using h, rfl, rfl⟩, Ent.refl _⟩
  · refine sw_buildSlice [] (by omega) rfl fun b0 => ?_
    repeat' (first | with_reducible refine sw_op ?_ | with_reducible refine sw_op_ ?_ | with_reducible refine sw_nil ?_ | with_reducible refine sq_then ?_ | with_reducible refine sc_seq ?_ | with_reducible refine sc_region ?_ | with_reducible refine sw_guard_skip ?_ | with_reducible refine sw_guard_skip_ ?_ | with_reducible refine sw_guard_run ?_ | with_reducible refine sc_cond_true ?_ | with_reducible refine sc_cond_false ?_ | with_reducible refine sc_ret ?_ | with_reducible refine sq_then_ret ?_ | with_reducible refine sc_skip ?_ | with_reducible refine sc_block ?_ | with_reducible refine sq_block ?_ | with_reducible refine sq_block_ret ?_ | with_reducible refine sc_exit ?_ | with_reducible refine sq_then_exit ?_ | with_reducible refine sq_block_exit ?_ | with_reducible refine sq_block_past ?_ | with_reducible refine sq_round_ret ?_ | with_reducible refine sq_round_exit ?_ | fail)
    refine sw_append (src := src) ?_ h1 ?_ fun b t => ?_
    · exact fun w hw => hr.sat (k := k) hw
    · exact ⟨by omega, rfl, hl, by omega, by omega⟩
    simp only [Nat.zero_add, List.take_nil, List.nil_append]
    repeat' (first | with_reducible refine sw_op ?_ | with_reducible refine sw_op_ ?_ | with_reducible refine sw_nil ?_ | with_reducible refine sq_then ?_ | with_reducible refine sc_seq ?_ | with_reducible refine sc_region ?_ | with_reducible refine sw_guard_skip ?_ | with_reducible refine sw_guard_skip_ ?_ | with_reducible refine sw_guard_run ?_ | with_reducible refine sc_cond_true ?_ | with_reducible refine sc_cond_false ?_ | with_reducible refine sc_ret ?_ | with_reducible refine sq_then_ret ?_ | with_reducible refine sc_skip ?_ | with_reducible refine sc_block ?_ | with_reducible refine sq_block ?_ | with_reducible refine sq_block_ret ?_ | with_reducible refine sc_exit ?_ | with_reducible refine sq_then_exit ?_ | with_reducible refine sq_block_exit ?_ | with_reducible refine sq_block_past ?_ | with_reducible refine sq_round_ret ?_ | with_reducible refine sq_round_exit ?_ | fail)
    refine sq_ret1 Try.results77 ?_
    exact ⟨_, .inr ⟨by simpa using h, b, t, rfl, rfl⟩, Ent.refl _⟩
/-- slices.Clone -/
theorem clBB_ok (k : Nat) (r : HProp) (a : Option Addr) (m c : Nat) (src : List Value) (hr : Reads r a src) (h1 : ∀ v ∈ src, v.oneCell' = true) (hl : src.length = m) (hm : m ≤ 4398046511104) :
    Spec Try.prog 87 [.slice a m c] [k] [r] fun F v Rs' => (a = none ∧ v = .slice none 0 0 ∧ Rs' = (k, r) :: F) ∨
      (a ≠ none ∧ ∃ b t, v = .slice (some ⟨b, 0, none⟩) m (m + t.length) ∧ Rs' = (b, pts b (.cells (src ++ t).toArray 23 (0, 0))) :: (k, r) :: F) := by
  refine spec_of Try.func87 rfl Try.ntmps87 rfl ?_
  intro w0 F
  repeat' (first | with_reducible refine sw_op ?_ | with_reducible refine sw_op_ ?_ | with_reducible refine sw_nil ?_ | with_reducible refine sq_then ?_ | with_reducible refine sc_seq ?_ | with_reducible refine sc_region ?_ | with_reducible refine sw_guard_skip ?_ | with_reducible refine sw_guard_skip_ ?_ | with_reducible refine sw_guard_run ?_ | with_reducible refine sc_cond_true ?_ | with_reducible refine sc_cond_false ?_ | with_reducible refine sc_ret ?_ | with_reducible refine sq_then_ret ?_ | with_reducible refine sc_skip ?_ | with_reducible refine sc_block ?_ | with_reducible refine sq_block ?_ | with_reducible refine sq_block_ret ?_ | with_reducible refine sc_exit ?_ | with_reducible refine sq_then_exit ?_ | with_reducible refine sq_block_exit ?_ | with_reducible refine sq_block_past ?_ | with_reducible refine sq_round_ret ?_ | with_reducible refine sq_round_exit ?_ | (with_reducible refine sc_cond (fun h => ?_) (fun h => ?_)) <;> (try (exfalso; first | contradiction | omega | exact h Iff.rfl)) | fail)
  · refine sq_ret1 Try.results87 ?_
    exact ⟨_, .inl ⟨by simpa using h, rfl, rfl⟩, Ent.refl _⟩
  · refine sw_buildSlice [] (by omega) rfl fun b0 => ?_
    repeat' (first | with_reducible refine sw_op ?_ | with_reducible refine sw_op_ ?_ | with_reducible refine sw_nil ?_ | with_reducible refine sq_then ?_ | with_reducible refine sc_seq ?_ | with_reducible refine sc_region ?_ | with_reducible refine sw_guard_skip ?_ | with_reducible refine sw_guard_skip_ ?_ | with_reducible refine sw_guard_run ?_ | with_reducible refine sc_cond_true ?_ | with_reducible refine sc_cond_false ?_ | with_reducible refine sc_ret ?_ | with_reducible refine sq_then_ret ?_ | with_reducible refine sc_skip ?_ | with_reducible refine sc_block ?_ | with_reducible refine sq_block ?_ | with_reducible refine sq_block_ret ?_ | with_reducible refine sc_exit ?_ | with_reducible refine sq_then_exit ?_ | with_reducible refine sq_block_exit ?_ | with_reducible refine sq_block_past ?_ | with_reducible refine sq_round_ret ?_ | with_reducible refine sq_round_exit ?_ | fail)
    refine sw_append (src := src) ?_ h1 ?_ fun b t => ?_
    · exact fun w hw => hr.sat (k := k) hw
    · exact ⟨by omega, rfl, hl, by omega, by omega⟩
    simp only [Nat.zero_add, List.take_nil, List.nil_append]
    repeat' (first | with_reducible refine sw_op ?_ | with_reducible refine sw_op_ ?_ | with_reducible refine sw_nil ?_ | with_reducible refine sq_then ?_ | with_reducible refine sc_seq ?_ | with_reducible refine sc_region ?_ | with_reducible refine sw_guard_skip ?_ | with_reducible refine sw_guard_skip_ ?_ | with_reducible refine sw_guard_run ?_ | with_reducible refine sc_cond_true ?_ | with_reducible refine sc_cond_false ?_ | with_reducible refine sc_ret ?_ | with_reducible refine sq_then_ret ?_ | with_reducible refine sc_skip ?_ | with_reducible refine sc_block ?_ | with_reducible refine sq_block ?_ | with_reducible refine sq_block_ret ?_ | with_reducible refine sc_exit ?_ | with_reducible refine sq_then_exit ?_ | with_reducible refine sq_block_exit ?_ | with_reducible refine sq_block_past ?_ | with_reducible refine sq_round_ret ?_ | with_reducible refine sq_round_exit ?_ | fail)
    refine sq_ret1 Try.results87 ?_
    exact ⟨_, .inr ⟨by simpa using h, b, t, rfl, rfl⟩, Ent.refl _⟩

/-- bytes.Equal -/
theorem bEqual_ok (k1 k2 : Nat) (r1 r2 : HProp) (a b : Option Addr) (m1 c1 m2 c2 : Nat) (xs ys : List Int) (h1 : Reads r1 a (xs.map (Value.int .u8))) (h2 : Reads r2 b (ys.map (Value.int .u8))) (l1 : xs.length = m1) (l2 : ys.length = m2)
    (b1 : ∀ x ∈ xs, 0 ≤ x ∧ x ≤ 255) (b2 : ∀ x ∈ ys, 0 ≤ x ∧ x ≤ 255) :
    Spec Try.prog 42 [.slice a m1 c1, .slice b m2 c2] [k1, k2] [r1, r2] fun F v Rs' => v = .bool (decide (xs = ys)) ∧ Rs' = (k1, r1) :: (k2, r2) :: F := by
  refine spec_of Try.func42 rfl Try.ntmps42 rfl ?_
  intro w0 F
  repeat' (first | with_reducible refine sw_op ?_ | with_reducible refine sw_op_ ?_ | with_reducible refine sw_nil ?_ | with_reducible refine sq_then ?_ | with_reducible refine sc_seq ?_ | with_reducible refine sc_region ?_ | with_reducible refine sw_guard_skip ?_ | with_reducible refine sw_guard_skip_ ?_ | with_reducible refine sw_guard_run ?_ | with_reducible refine sc_cond_true ?_ | with_reducible refine sc_cond_false ?_ | with_reducible refine sc_ret ?_ | with_reducible refine sq_then_ret ?_ | with_reducible refine sc_skip ?_ | with_reducible refine sc_block ?_ | with_reducible refine sq_block ?_ | with_reducible refine sq_block_ret ?_ | with_reducible refine sc_exit ?_ | with_reducible refine sq_then_exit ?_ | with_reducible refine sq_block_exit ?_ | with_reducible refine sq_block_past ?_ | with_reducible refine sq_round_ret ?_ | with_reducible refine sq_round_exit ?_ | fail)
  refine sw_bytes xs ?_ l1 ?_
  · exact fun w hw => h1.sat (k := k1) hw
  repeat' (first | with_reducible refine sw_op ?_ | with_reducible refine sw_op_ ?_ | with_reducible refine sw_nil ?_ | with_reducible refine sq_then ?_ | with_reducible refine sc_seq ?_ | with_reducible refine sc_region ?_ | with_reducible refine sw_guard_skip ?_ | with_reducible refine sw_guard_skip_ ?_ | with_reducible refine sw_guard_run ?_ | with_reducible refine sc_cond_true ?_ | with_reducible refine sc_cond_false ?_ | with_reducible refine sc_ret ?_ | with_reducible refine sq_then_ret ?_ | with_reducible refine sc_skip ?_ | with_reducible refine sc_block ?_ | with_reducible refine sq_block ?_ | with_reducible refine sq_block_ret ?_ | with_reducible refine sc_exit ?_ | with_reducible refine sq_then_exit ?_ | with_reducible refine sq_block_exit ?_ | with_reducible refine sq_block_past ?_ | with_reducible refine sq_round_ret ?_ | with_reducible refine sq_round_exit ?_ | fail)
  refine sw_bytes ys ?_ l2 ?_
  · exact fun w hw => h2.sat (t := Take.there _ _ k2 _ _) hw
  repeat' (first | with_reducible refine sw_op ?_ | with_reducible refine sw_op_ ?_ | with_reducible refine sw_nil ?_ | with_reducible refine sq_then ?_ | with_reducible refine sc_seq ?_ | with_reducible refine sc_region ?_ | with_reducible refine sw_guard_skip ?_ | with_reducible refine sw_guard_skip_ ?_ | with_reducible refine sw_guard_run ?_ | with_reducible refine sc_cond_true ?_ | with_reducible refine sc_cond_false ?_ | with_reducible refine sc_ret ?_ | with_reducible refine sq_then_ret ?_ | with_reducible refine sc_skip ?_ | with_reducible refine sc_block ?_ | with_reducible refine sq_block ?_ | with_reducible refine sq_block_ret ?_ | with_reducible refine sc_exit ?_ | with_reducible refine sq_then_exit ?_ | with_reducible refine sq_block_exit ?_ | with_reducible refine sq_block_past ?_ | with_reducible refine sq_round_ret ?_ | with_reducible refine sq_round_exit ?_ | fail)
  rw [strB_eq b1 b2]
  repeat' (first | with_reducible refine sw_op ?_ | with_reducible refine sw_op_ ?_ | with_reducible refine sw_nil ?_ | with_reducible refine sq_then ?_ | with_reducible refine sc_seq ?_ | with_reducible refine sc_region ?_ | with_reducible refine sw_guard_skip ?_ | with_reducible refine sw_guard_skip_ ?_ | with_reducible refine sw_guard_run ?_ | with_reducible refine sc_cond_true ?_ | with_reducible refine sc_cond_false ?_ | with_reducible refine sc_ret ?_ | with_reducible refine sq_then_ret ?_ | with_reducible refine sc_skip ?_ | with_reducible refine sc_block ?_ | with_reducible refine sq_block ?_ | with_reducible refine sq_block_ret ?_ | with_reducible refine sc_exit ?_ | with_reducible refine sq_then_exit ?_ | with_reducible refine sq_block_exit ?_ | with_reducible refine sq_block_past ?_ | with_reducible refine sq_round_ret ?_ | with_reducible refine sq_round_exit ?_ | fail)
  refine sq_ret1 Try.results42 ?_
  exact ⟨_, ⟨rfl, rfl⟩, Ent.refl _⟩

instance : Mnz Try.prog 98 3 23 5 where
  und := Try.underlying23
  out := run_callFunc_extern Try.func98 (by kernel_rfl) (by kernel_rfl) (by kernel_rfl) (e := Extern.BytealgMakeNoZero.makeNoZero #[3] #[23]) (by kernel_rfl)

theorem bitsMul64_1 : Spec Try.prog 106 [.int .u64 1, .int .u64 512] [] [] fun F v Rs' => v = .tuple #[.int .u64 0, .int .u64 512] ∧ Rs' = F := by
  refine spec_of Try.func106 rfl Try.ntmps106 rfl ?_
  intro w0 F
  repeat' (first | with_reducible refine sw_shr (by omega) ?_ | with_reducible refine sw_op ?_ | with_reducible refine sw_op_ ?_ | with_reducible refine sw_nil ?_ | with_reducible refine sq_then ?_ | with_reducible refine sc_seq ?_ | with_reducible refine sc_region ?_ | with_reducible refine sw_guard_skip ?_ | with_reducible refine sw_guard_skip_ ?_ | with_reducible refine sw_guard_run ?_ | with_reducible refine sc_cond_true ?_ | with_reducible refine sc_cond_false ?_ | with_reducible refine sc_ret ?_ | with_reducible refine sq_then_ret ?_ | with_reducible refine sc_skip ?_ | with_reducible refine sc_block ?_ | with_reducible refine sq_block ?_ | with_reducible refine sq_block_ret ?_ | with_reducible refine sc_exit ?_ | with_reducible refine sq_then_exit ?_ | with_reducible refine sq_block_exit ?_ | with_reducible refine sq_block_past ?_ | with_reducible refine sq_round_ret ?_ | with_reducible refine sq_round_exit ?_ | fail)
  refine sq_ret2 Try.results106 ?_
  exact ⟨_, ⟨by kernel_rfl, rfl⟩, Ent.refl _⟩
theorem bitsMul_1 : Spec Try.prog 97 [.int .u64 1, .int .u64 512] [] [] fun F v Rs' => v = .tuple #[.int .u64 0, .int .u64 512] ∧ Rs' = F := by
  refine spec_of Try.func97 rfl Try.ntmps97 rfl ?_
  intro w0 F
  repeat' (first | with_reducible refine sw_op ?_ | with_reducible refine sw_op_ ?_ | ((with_reducible refine sw_call bitsMul64_1 ?_); rintro _ _ ⟨rfl, rfl⟩) | with_reducible refine sw_nil ?_ | with_reducible refine sq_then ?_ | with_reducible refine sc_seq ?_ | with_reducible refine sc_region ?_ | with_reducible refine sw_guard_skip ?_ | with_reducible refine sw_guard_skip_ ?_ | with_reducible refine sw_guard_run ?_ | with_reducible refine sc_cond_true ?_ | with_reducible refine sc_cond_false ?_ | with_reducible refine sc_ret ?_ | with_reducible refine sq_then_ret ?_ | with_reducible refine sc_skip ?_ | with_reducible refine sc_block ?_ | with_reducible refine sq_block ?_ | with_reducible refine sq_block_ret ?_ | with_reducible refine sc_exit ?_ | with_reducible refine sq_then_exit ?_ | with_reducible refine sq_block_exit ?_ | with_reducible refine sq_block_past ?_ | with_reducible refine sq_round_ret ?_ | with_reducible refine sq_round_exit ?_ | fail)
  refine sq_ret2 Try.results97 ?_
  exact ⟨_, ⟨rfl, rfl⟩, Ent.refl _⟩

set_option maxRecDepth 20000 in
/-- bytes.Repeat of one byte, 512 times -/
theorem bRepeat_ok (b c : Nat) (x : Int) (hx : 0 ≤ x ∧ x ≤ 255) : Spec Try.prog 70 [.slice (some ⟨b, 0, none⟩) 1 c, .int .i64 512] [b] [pts b (.cells [.int .u8 x].toArray 5 (0, 0))]
    fun F v Rs' => ∃ b' r, v = .slice (some ⟨b', 0, none⟩) 512 512 ∧ Rs' = (b', pts b' (.cells (List.replicate 512 (Value.int .u8 x) ++ r).toArray 5 (0, 0))) :: F := by
  refine spec_of Try.func70 rfl Try.ntmps70 rfl ?_
  intro w0 F
  repeat' (first | with_reducible refine sw_in (by omega) ?_ | with_reducible refine sw_op ?_ | with_reducible refine sw_op_ ?_ | ((with_reducible refine sw_call bitsMul_1 ?_); rintro _ _ ⟨rfl, rfl⟩) | with_reducible refine sw_nil ?_ | with_reducible refine sq_then ?_ | with_reducible refine sc_seq ?_ | with_reducible refine sc_region ?_ | with_reducible refine sw_guard_skip ?_ | with_reducible refine sw_guard_skip_ ?_ | with_reducible refine sw_guard_run ?_ | with_reducible refine sc_cond_true ?_ | with_reducible refine sc_cond_false ?_ | with_reducible refine sc_ret ?_ | with_reducible refine sq_then_ret ?_ | with_reducible refine sc_skip ?_ | with_reducible refine sc_block ?_ | with_reducible refine sq_block ?_ | with_reducible refine sq_block_ret ?_ | with_reducible refine sc_exit ?_ | with_reducible refine sq_then_exit ?_ | with_reducible refine sq_block_exit ?_ | with_reducible refine sq_block_past ?_ | with_reducible refine sq_round_ret ?_ | with_reducible refine sq_round_exit ?_ | (with_reducible refine sc_cond (fun h => ?_) (fun h => ?_)) <;> (try (exfalso; first | contradiction | omega | exact h Iff.rfl)) | (with_reducible refine sw_guard_split (fun h => ?_) (fun h => ?_)) <;> (try (exfalso; first | contradiction | omega | exact h Iff.rfl)) | (with_reducible refine sw_pick (fun h => ?_) (fun h => ?_)) <;> (try (exfalso; first | contradiction | omega | exact h Iff.rfl)) | fail)
  refine sw_mnz 512 rfl (by omega) fun b' cs hcs => ?_
  repeat' (first | with_reducible refine sw_op ?_ | with_reducible refine sw_op_ ?_ | with_reducible refine sw_nil ?_ | with_reducible refine sq_then ?_ | with_reducible refine sc_seq ?_ | with_reducible refine sc_region ?_ | with_reducible refine sw_guard_skip ?_ | with_reducible refine sw_guard_skip_ ?_ | with_reducible refine sw_guard_run ?_ | with_reducible refine sc_cond_true ?_ | with_reducible refine sc_cond_false ?_ | with_reducible refine sc_ret ?_ | with_reducible refine sq_then_ret ?_ | with_reducible refine sc_skip ?_ | with_reducible refine sc_block ?_ | with_reducible refine sq_block ?_ | with_reducible refine sq_block_ret ?_ | with_reducible refine sc_exit ?_ | with_reducible refine sq_then_exit ?_ | with_reducible refine sq_block_exit ?_ | with_reducible refine sq_block_past ?_ | with_reducible refine sq_round_ret ?_ | with_reducible refine sq_round_exit ?_ | fail)
  refine sw_slice 0 512 512 0 (by omega) (by simp) ?_
  repeat' (first | with_reducible refine sw_op ?_ | with_reducible refine sw_op_ ?_ | with_reducible refine sw_nil ?_ | with_reducible refine sq_then ?_ | with_reducible refine sc_seq ?_ | with_reducible refine sc_region ?_ | with_reducible refine sw_guard_skip ?_ | with_reducible refine sw_guard_skip_ ?_ | with_reducible refine sw_guard_run ?_ | with_reducible refine sc_cond_true ?_ | with_reducible refine sc_cond_false ?_ | with_reducible refine sc_ret ?_ | with_reducible refine sq_then_ret ?_ | with_reducible refine sc_skip ?_ | with_reducible refine sc_block ?_ | with_reducible refine sq_block ?_ | with_reducible refine sq_block_ret ?_ | with_reducible refine sc_exit ?_ | with_reducible refine sq_then_exit ?_ | with_reducible refine sq_block_exit ?_ | with_reducible refine sq_block_past ?_ | with_reducible refine sq_round_ret ?_ | with_reducible refine sq_round_exit ?_ | fail)
  refine sw_copy (src := [.int .u8 x]) src_pts0 (by simp [Value.oneCell']) (by simp; omega) ?_
  have e1 : cs.take 0 ++ [Value.int .u8 x] ++ cs.drop (0 + [Value.int .u8 x].length) = List.replicate 1 (Value.int .u8 x) ++ cs.drop 1 := by simp
  rw [e1]
  repeat' (first | with_reducible refine sw_op ?_ | with_reducible refine sw_op_ ?_ | with_reducible refine sw_nil ?_ | with_reducible refine sq_then ?_ | with_reducible refine sc_seq ?_ | with_reducible refine sc_region ?_ | with_reducible refine sw_guard_skip ?_ | with_reducible refine sw_guard_skip_ ?_ | with_reducible refine sw_guard_run ?_ | with_reducible refine sc_cond_true ?_ | with_reducible refine sc_cond_false ?_ | with_reducible refine sc_ret ?_ | with_reducible refine sq_then_ret ?_ | with_reducible refine sc_skip ?_ | with_reducible refine sc_block ?_ | with_reducible refine sq_block ?_ | with_reducible refine sq_block_ret ?_ | with_reducible refine sc_exit ?_ | with_reducible refine sq_then_exit ?_ | with_reducible refine sq_block_exit ?_ | with_reducible refine sq_block_past ?_ | with_reducible refine sq_round_ret ?_ | with_reducible refine sq_round_exit ?_ | fail)
  simp only [Nat.sub_zero]
  refine sc_keep [4, 7, 8, 9, 10] fun e0 => ?_
  simp only [List.cons_append, List.nil_append]
  refine sc_loop (α := { y : Nat × List Value // (1 ≤ y.1 ∧ y.1 ≤ 512) ∧ y.1 + y.2.length = cs.length }) (fun y => [(7, .int .i64 512), (8, .int .i64 512), (9, .slice (some ⟨b', 0, none⟩) 512 512), (10, .int .i64 y.1.1)])
    (fun y => (b', pts b' (.cells (List.replicate y.1.1 (Value.int .u8 x) ++ y.1.2).toArray 5 (0, 0))) :: F) (fun y => 512 - y.1.1) ⟨(1, cs.drop 1), ⟨by omega, by omega⟩, by simp; omega⟩ ?_ ?_ ?_
  · exact says_cons rfl (says_cons rfl (says_cons rfl (says_cons rfl says_nil)))
  · repeat' (first | with_reducible exact Ent.refl _ | with_reducible refine Ent.take_eq ?_ ?_ | rfl | with_reducible refine Ent.trans (Ent.drop _ _) ?_)
  · rintro ⟨⟨m, r⟩, ⟨hm1, hm2⟩, hl⟩ e
    simp only at hm1 hm2 hl
    simp only [List.cons_append, List.nil_append]
    repeat' (first | with_reducible refine sw_op ?_ | with_reducible refine sw_op_ ?_ | with_reducible refine sw_nil ?_ | with_reducible refine sq_then ?_ | with_reducible refine sc_seq ?_ | with_reducible refine sc_region ?_ | with_reducible refine sw_guard_skip ?_ | with_reducible refine sw_guard_skip_ ?_ | with_reducible refine sw_guard_run ?_ | with_reducible refine sc_cond_true ?_ | with_reducible refine sc_cond_false ?_ | with_reducible refine sc_ret ?_ | with_reducible refine sq_then_ret ?_ | with_reducible refine sc_skip ?_ | with_reducible refine sc_block ?_ | with_reducible refine sq_block ?_ | with_reducible refine sq_block_ret ?_ | with_reducible refine sc_exit ?_ | with_reducible refine sq_then_exit ?_ | with_reducible refine sq_block_exit ?_ | with_reducible refine sq_block_past ?_ | with_reducible refine sq_round_ret ?_ | with_reducible refine sq_round_exit ?_ | (with_reducible refine sc_cond (fun h => ?_) (fun h => ?_)) <;> (try (exfalso; first | contradiction | omega | exact h Iff.rfl)) | fail)
    · -- a round
      have hmn : (if (512 : Int) < m then (512 : Int) else m) = m := by rw [if_neg (by omega)]
      rw [hmn]
      have hsrc : ∀ (j : Nat) (v : Value), (List.replicate (min m (512 - m)) (Value.int .u8 x))[j]? = some v → (List.replicate m (Value.int .u8 x) ++ r)[0 + j]? = some v := fun j v hj => by
        rw [List.getElem?_replicate] at hj
        split at hj
        · rw [Nat.zero_add, List.getElem?_append_left (by rw [List.length_replicate]; omega), List.getElem?_replicate, if_pos (by omega)]; exact hj
        · cases hj
      have hone : ∀ v ∈ List.replicate (min m (512 - m)) (Value.int .u8 x), v.oneCell' = true := fun v hv => by rw [List.eq_of_mem_replicate hv]; rfl
      have hlen : (List.replicate (min m (512 - m)) (Value.int .u8 x)).length = min (m - 0) (512 - m) ∧ m + (List.replicate (min m (512 - m)) (Value.int .u8 x)).length ≤ (List.replicate m (Value.int .u8 x) ++ r).length := by
        rw [List.length_append, List.length_replicate, List.length_replicate]; omega
      refine sc_drawG (m := 10) ([]) (by kernel_rfl) rfl ?_
      all_goals (first | refine sg_take 0 (by repeat' (first | with_reducible exact calm_post | with_reducible refine Calm.then ?_ | with_reducible refine Calm.block ?_ | with_reducible refine Calm.round ?_)) rfl (by kernel_rfl) (by kernel_rfl) (by kernel_rfl) ?_)
      all_goals (first | refine sg_take 1 (by repeat' (first | with_reducible exact calm_post | with_reducible refine Calm.then ?_ | with_reducible refine Calm.block ?_ | with_reducible refine Calm.round ?_)) rfl (by kernel_rfl) (by kernel_rfl) (by kernel_rfl) ?_)
      all_goals (first | refine sg_take 2 (by repeat' (first | with_reducible exact calm_post | with_reducible refine Calm.then ?_ | with_reducible refine Calm.block ?_ | with_reducible refine Calm.round ?_)) rfl (by kernel_rfl) (by kernel_rfl) (by kernel_rfl) ?_)
      all_goals (first | refine sg_take 3 (by repeat' (first | with_reducible exact calm_post | with_reducible refine Calm.then ?_ | with_reducible refine Calm.block ?_ | with_reducible refine Calm.round ?_)) rfl (by kernel_rfl) (by kernel_rfl) (by kernel_rfl) (h := runop_slice m 512 512 m (by omega) (by refine ⟨rfl, rfl, rfl, ?_⟩; rw [if_neg (by omega)]; omega)) ?_ | refine sg_take 3 (by repeat' (first | with_reducible exact calm_post | with_reducible refine Calm.then ?_ | with_reducible refine Calm.block ?_ | with_reducible refine Calm.round ?_)) rfl (by kernel_rfl) (by kernel_rfl) (by kernel_rfl) ?_)
      all_goals (first | refine sg_take 4 (by repeat' (first | with_reducible exact calm_post | with_reducible refine Calm.then ?_ | with_reducible refine Calm.block ?_ | with_reducible refine Calm.round ?_)) rfl (by kernel_rfl) (by kernel_rfl) (by kernel_rfl) ?_)
      all_goals (first | refine sg_take 5 (by repeat' (first | with_reducible exact calm_post | with_reducible refine Calm.then ?_ | with_reducible refine Calm.block ?_ | with_reducible refine Calm.round ?_)) rfl (by kernel_rfl) (by kernel_rfl) (by kernel_rfl) ?_)
      all_goals (first | refine sg_take 6 (by repeat' (first | with_reducible exact calm_post | with_reducible refine Calm.then ?_ | with_reducible refine Calm.block ?_ | with_reducible refine Calm.round ?_)) rfl (by kernel_rfl) (by kernel_rfl) (by kernel_rfl) (h := runop_slice 0 m 512 0 (by omega) (by refine ⟨rfl, rfl, rfl, ?_⟩; simp)) ?_ | refine sg_take 6 (by repeat' (first | with_reducible exact calm_post | with_reducible refine Calm.then ?_ | with_reducible refine Calm.block ?_ | with_reducible refine Calm.round ?_)) rfl (by kernel_rfl) (by kernel_rfl) (by kernel_rfl) ?_)
      all_goals (refine sg_one 7 rfl (by kernel_rfl) rfl ?_)
      all_goals (repeat' (first | with_reducible refine sw_op ?_ | with_reducible refine sw_op_ ?_ | with_reducible refine sw_copy (src := List.replicate (min m (512 - m)) (Value.int .u8 x)) (src_of_pts (off := 0) hsrc) hone hlen ?_ | with_reducible refine sg_back ?_ | with_reducible refine sw_nil ?_ | with_reducible refine sq_then ?_ | with_reducible refine sc_seq ?_ | with_reducible refine sc_region ?_ | with_reducible refine sw_guard_skip ?_ | with_reducible refine sw_guard_skip_ ?_ | with_reducible refine sw_guard_run ?_ | with_reducible refine sc_cond_true ?_ | with_reducible refine sc_cond_false ?_ | with_reducible refine sc_ret ?_ | with_reducible refine sq_then_ret ?_ | with_reducible refine sc_skip ?_ | with_reducible refine sc_block ?_ | with_reducible refine sq_block ?_ | with_reducible refine sq_block_ret ?_ | with_reducible refine sc_exit ?_ | with_reducible refine sq_then_exit ?_ | with_reducible refine sq_block_exit ?_ | with_reducible refine sq_block_past ?_ | with_reducible refine sq_round_ret ?_ | with_reducible refine sq_round_exit ?_ | fail))
      all_goals (first | refine sg_take_as 8 (by repeat' (first | with_reducible exact calm_post | with_reducible refine Calm.then ?_ | with_reducible refine Calm.block ?_ | with_reducible refine Calm.round ?_)) rfl (by kernel_rfl) (by kernel_rfl) (by kernel_rfl) (by rw [IntWalk.i64_in _ (by omega)]) ?_ | refine sg_take 8 (by repeat' (first | with_reducible exact calm_post | with_reducible refine Calm.then ?_ | with_reducible refine Calm.block ?_ | with_reducible refine Calm.round ?_)) rfl (by kernel_rfl) (by kernel_rfl) (by kernel_rfl) ?_)
      all_goals (first | refine sg_take 9 (by repeat' (first | with_reducible exact calm_post | with_reducible refine Calm.then ?_ | with_reducible refine Calm.block ?_ | with_reducible refine Calm.round ?_)) rfl (by kernel_rfl) (by kernel_rfl) (by kernel_rfl) ?_)
      all_goals (refine sg_done (by kernel_rfl) rfl ?_)
      repeat' (first | with_reducible refine sw_op ?_ | with_reducible refine sw_op_ ?_ | with_reducible refine sw_nil ?_ | with_reducible refine sq_then ?_ | with_reducible refine sc_seq ?_ | with_reducible refine sc_region ?_ | with_reducible refine sw_guard_skip ?_ | with_reducible refine sw_guard_skip_ ?_ | with_reducible refine sw_guard_run ?_ | with_reducible refine sc_cond_true ?_ | with_reducible refine sc_cond_false ?_ | with_reducible refine sc_ret ?_ | with_reducible refine sq_then_ret ?_ | with_reducible refine sc_skip ?_ | with_reducible refine sc_block ?_ | with_reducible refine sq_block ?_ | with_reducible refine sq_block_ret ?_ | with_reducible refine sc_exit ?_ | with_reducible refine sq_then_exit ?_ | with_reducible refine sq_block_exit ?_ | with_reducible refine sq_block_past ?_ | with_reducible refine sq_round_ret ?_ | with_reducible refine sq_round_exit ?_ | fail)
      have e2 : List.take m (List.replicate m (Value.int .u8 x) ++ r) ++ List.replicate (min m (512 - m)) (Value.int .u8 x) ++ List.drop (m + (List.replicate (min m (512 - m)) (Value.int .u8 x)).length) (List.replicate m (Value.int .u8 x) ++ r) =
          List.replicate (m + min m (512 - m)) (Value.int .u8 x) ++ r.drop (min m (512 - m)) := by
        rw [List.take_left' (by rw [List.length_replicate]), List.length_replicate, ← List.drop_drop, List.drop_left' (by rw [List.length_replicate]), List.replicate_append_replicate]
      rw [e2]
      refine sq_round ⟨(m + min m (512 - m), r.drop (min m (512 - m))), ⟨by show 1 ≤ m + min m (512 - m); omega, by show m + min m (512 - m) ≤ 512; omega⟩, by show m + min m (512 - m) + (r.drop (min m (512 - m))).length = cs.length; rw [List.length_drop]; omega⟩ ?_ ?_ ?_
      · show 512 - (m + min m (512 - m)) < 512 - m
        omega
      · exact says_cons rfl (says_cons rfl (says_cons rfl (says_cons (by rw [List.length_replicate]; rfl) says_nil)))
      · repeat' (first | with_reducible exact Ent.refl _ | with_reducible refine Ent.take_eq ?_ ?_ | rfl | with_reducible refine Ent.trans (Ent.drop _ _) ?_)
    · have hm : m = 512 := by omega
      subst hm
      refine sq_ret1 Try.results70 ?_
      exact ⟨_, ⟨b', r, rfl, rfl⟩, Ent.refl _⟩

/-- a sector that begins with a byte, all the rest being another one -/
def secOf (a b : Int) : List Int := a :: List.replicate 511 b
theorem secOf_wf {a b : Int} (ha : 0 ≤ a ∧ a ≤ 255) (hb : 0 ≤ b ∧ b ≤ 255) : SecWf (secOf a b) :=
  ⟨by unfold secOf; rw [List.length_cons, List.length_replicate], fun x hx => by
    unfold secOf at hx
    rcases List.mem_cons.1 hx with rfl | hx
    · exact ha
    · rw [List.eq_of_mem_replicate hx]; exact hb⟩

theorem l2sector_ok (a b : Int) (ha : 0 ≤ a ∧ a ≤ 255) (hb : 0 ≤ b ∧ b ≤ 255) : Spec Try.prog 36 [.int .u8 a, .int .u8 b] [] [] fun F v Rs' => ∃ q r, v = .slice (some ⟨q, 0, none⟩) 512 512 ∧
    Rs' = (q, pts q (.cells ((secOf a b).map (Value.int .u8) ++ r).toArray 5 (0, 0))) :: F := by
  refine spec_of Try.func36 rfl Try.ntmps36 rfl ?_
  intro w0 F
  repeat' (first | with_reducible refine sw_op ?_ | with_reducible refine sw_op_ ?_ | with_reducible refine sw_nil ?_ | with_reducible refine sq_then ?_ | with_reducible refine sc_seq ?_ | with_reducible refine sc_region ?_ | with_reducible refine sw_guard_skip ?_ | with_reducible refine sw_guard_skip_ ?_ | with_reducible refine sw_guard_run ?_ | with_reducible refine sc_cond_true ?_ | with_reducible refine sc_cond_false ?_ | with_reducible refine sc_ret ?_ | with_reducible refine sq_then_ret ?_ | with_reducible refine sc_skip ?_ | with_reducible refine sc_block ?_ | with_reducible refine sq_block ?_ | with_reducible refine sq_block_ret ?_ | with_reducible refine sc_exit ?_ | with_reducible refine sq_then_exit ?_ | with_reducible refine sq_block_exit ?_ | with_reducible refine sq_block_past ?_ | with_reducible refine sq_round_ret ?_ | with_reducible refine sq_round_exit ?_ | fail)
  refine sw_buildSlice [.int .u8 b] (by omega) rfl fun q0 => ?_
  repeat' (first | with_reducible refine sw_op ?_ | with_reducible refine sw_op_ ?_ | ((with_reducible refine sw_call (bRepeat_ok q0 1 b hb) ?_); rintro _ _ ⟨q, r, rfl, rfl⟩) | with_reducible refine sw_idx 0 (by omega) ?_ | with_reducible refine sw_nil ?_ | with_reducible refine sq_then ?_ | with_reducible refine sc_seq ?_ | with_reducible refine sc_region ?_ | with_reducible refine sw_guard_skip ?_ | with_reducible refine sw_guard_skip_ ?_ | with_reducible refine sw_guard_run ?_ | with_reducible refine sc_cond_true ?_ | with_reducible refine sc_cond_false ?_ | with_reducible refine sc_ret ?_ | with_reducible refine sq_then_ret ?_ | with_reducible refine sc_skip ?_ | with_reducible refine sc_block ?_ | with_reducible refine sq_block ?_ | with_reducible refine sq_block_ret ?_ | with_reducible refine sc_exit ?_ | with_reducible refine sq_then_exit ?_ | with_reducible refine sq_block_exit ?_ | with_reducible refine sq_block_past ?_ | with_reducible refine sq_round_ret ?_ | with_reducible refine sq_round_exit ?_ | fail)
  refine sw_storeAt (by rw [List.length_append, List.length_replicate]; omega) ?_
  repeat' (first | with_reducible refine sw_op ?_ | with_reducible refine sw_op_ ?_ | with_reducible refine sw_nil ?_ | with_reducible refine sq_then ?_ | with_reducible refine sc_seq ?_ | with_reducible refine sc_region ?_ | with_reducible refine sw_guard_skip ?_ | with_reducible refine sw_guard_skip_ ?_ | with_reducible refine sw_guard_run ?_ | with_reducible refine sc_cond_true ?_ | with_reducible refine sc_cond_false ?_ | with_reducible refine sc_ret ?_ | with_reducible refine sq_then_ret ?_ | with_reducible refine sc_skip ?_ | with_reducible refine sc_block ?_ | with_reducible refine sq_block ?_ | with_reducible refine sq_block_ret ?_ | with_reducible refine sc_exit ?_ | with_reducible refine sq_then_exit ?_ | with_reducible refine sq_block_exit ?_ | with_reducible refine sq_block_past ?_ | with_reducible refine sq_round_ret ?_ | with_reducible refine sq_round_exit ?_ | fail)
  refine sq_ret1 Try.results36 ?_
  refine ⟨_, ⟨q, r, rfl, rfl⟩, ?_⟩
  have e1 : (List.replicate 512 (Value.int .u8 b) ++ r).set 0 (.int .u8 a) = (secOf a b).map (Value.int .u8) ++ r := by
    unfold secOf
    rw [show (512 : Nat) = 511 + 1 from rfl, List.replicate_succ, List.map_cons, List.map_replicate]
    rfl
  rw [e1]
  repeat' (first | with_reducible exact Ent.refl _ | with_reducible refine Ent.take_eq ?_ ?_ | rfl | with_reducible refine Ent.trans (Ent.drop _ _) ?_)

theorem Sec.left {v : Value} {xs : List Int} {x y : Hp} (h : Sec v xs x) : Sec v xs (hjoin x y) := by
  obtain ⟨b, r, hv, hi⟩ := h
  exact ⟨b, r, hv, imm_left hi⟩
theorem Sec.right {v : Value} {xs : List Int} {x y : Hp} (hd : hdisj x y) (h : Sec v xs y) : Sec v xs (hjoin x y) := by
  rw [hjoin_comm hd]; exact h.left
theorem Secs.left {vs : List Value} {ss : List (List Int)} {x y : Hp} (h : Secs vs ss x) : Secs vs ss (hjoin x y) := fun i v xs h1 h2 => (h i v xs h1 h2).left
theorem DirtyS.left {f : Int → Option Value} {g : Int → Option (List Int)} {x y : Hp} (h : DirtyS f g x) : DirtyS f g (hjoin x y) := fun j => ⟨(h j).1, fun v xs h1 h2 => ((h j).2 v xs h1 h2).left⟩
theorem BoolsI.left {v : Value} {bs : List Bool} {x y : Hp} (h : BoolsI v bs x) : BoolsI v bs (hjoin x y) := by
  rcases h with h | ⟨b, r, hv, hi⟩
  · exact .inl h
  · exact .inr ⟨b, r, hv, imm_left hi⟩
end Go.Gsl
