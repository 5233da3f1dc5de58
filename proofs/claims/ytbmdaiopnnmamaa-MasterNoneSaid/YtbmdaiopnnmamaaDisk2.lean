/- Clones; bytes.Repeat, bytes.Equal; a sector. -/
import Derived.Test.YtbmdaiopnnmamaaDisk1
import Derived.Test.YtbmdaiopnnmamaaGsl12
namespace Go.Gsl
set_option linter.unusedVariables false
open Go.Proofs

/-- slices.Clone -/
theorem clB_ok (k : Nat) (r : HProp) (a : Option Addr) (m c : Nat) (src : List Value) (hr : Reads r a src) (h1 : ∀ v ∈ src, v.oneCell' = true) (hl : src.length = m) (hm : m ≤ 140737488355328) :
    Spec Try.prog 59 [.slice a m c] [k] [r] fun F v Rs' => (a = none ∧ v = .slice none 0 0 ∧ Rs' = (k, r) :: F) ∨
      (a ≠ none ∧ ∃ b t, v = .slice (some ⟨b, 0, none⟩) m (m + t.length) ∧ Rs' = (b, pts b (.cells (src ++ t).toArray 5 (0, 0))) :: (k, r) :: F) := by
  refine spec_of Try.func59 rfl Try.ntmps59 rfl ?_
  intro w0 F
  repeat' (first | with_reducible (first | refine sw_op ?_ | refine sw_op_ ?_) | with_reducible (first | refine sw_nil ?_ | refine sq_then ?_ | refine sc_seq ?_ | refine sc_region ?_ | refine sw_guard_skip ?_ | refine sw_guard_skip_ ?_ | refine sw_guard_run ?_ | refine sc_cond_true ?_ | refine sc_cond_false ?_ | refine sc_ret ?_ | refine sq_then_ret ?_ | refine sc_skip ?_ | refine sc_block ?_ | refine sq_block ?_ | refine sq_block_ret ?_ | refine sc_exit ?_ | refine sq_then_exit ?_ | refine sq_block_exit ?_ | refine sq_block_past ?_ | refine sq_round_ret ?_ | refine sq_round_exit ?_) | (with_reducible refine sc_cond (fun h => ?_) (fun h => ?_)) <;> (try (exfalso; first | contradiction | omega | exact h Iff.rfl)) | fail)
  · refine sq_ret1 Try.results59 ?_
    exact ⟨_, .inl ⟨by simpa using h, rfl, rfl⟩, Ent.refl _⟩
  · refine sw_buildSlice [] (by omega) rfl fun b0 => ?_
    repeat' (first | with_reducible (first | refine sw_op ?_ | refine sw_op_ ?_) | with_reducible (first | refine sw_nil ?_ | refine sq_then ?_ | refine sc_seq ?_ | refine sc_region ?_ | refine sw_guard_skip ?_ | refine sw_guard_skip_ ?_ | refine sw_guard_run ?_ | refine sc_cond_true ?_ | refine sc_cond_false ?_ | refine sc_ret ?_ | refine sq_then_ret ?_ | refine sc_skip ?_ | refine sc_block ?_ | refine sq_block ?_ | refine sq_block_ret ?_ | refine sc_exit ?_ | refine sq_then_exit ?_ | refine sq_block_exit ?_ | refine sq_block_past ?_ | refine sq_round_ret ?_ | refine sq_round_exit ?_) | fail)
    refine sw_append (src := src) ?_ h1 ?_ fun b t => ?_
    · exact fun w hw => hr.sat (k := k) hw
    · exact ⟨by omega, rfl, hl, by omega, by omega⟩
    simp only [Nat.zero_add, List.take_nil, List.nil_append]
    repeat' (first | with_reducible (first | refine sw_op ?_ | refine sw_op_ ?_) | with_reducible (first | refine sw_nil ?_ | refine sq_then ?_ | refine sc_seq ?_ | refine sc_region ?_ | refine sw_guard_skip ?_ | refine sw_guard_skip_ ?_ | refine sw_guard_run ?_ | refine sc_cond_true ?_ | refine sc_cond_false ?_ | refine sc_ret ?_ | refine sq_then_ret ?_ | refine sc_skip ?_ | refine sc_block ?_ | refine sq_block ?_ | refine sq_block_ret ?_ | refine sc_exit ?_ | refine sq_then_exit ?_ | refine sq_block_exit ?_ | refine sq_block_past ?_ | refine sq_round_ret ?_ | refine sq_round_exit ?_) | fail)
    refine sq_ret1 Try.results59 ?_
    exact ⟨_, .inr ⟨by simpa using h, b, t, rfl, rfl⟩, Ent.refl _⟩
/-- slices.Clone -/
theorem clBool_ok (k : Nat) (r : HProp) (a : Option Addr) (m c : Nat) (src : List Value) (hr : Reads r a src) (h1 : ∀ v ∈ src, v.oneCell' = true) (hl : src.length = m) (hm : m ≤ 140737488355328) :
    Spec Try.prog 82 [.slice a m c] [k] [r] fun F v Rs' => (a = none ∧ v = .slice none 0 0 ∧ Rs' = (k, r) :: F) ∨
      (a ≠ none ∧ ∃ b t, v = .slice (some ⟨b, 0, none⟩) m (m + t.length) ∧ Rs' = (b, pts b (.cells (src ++ t).toArray 4 (0, 0))) :: (k, r) :: F) := by
  refine spec_of Try.func82 rfl Try.ntmps82 rfl ?_
  intro w0 F
  repeat' (first | with_reducible (first | refine sw_op ?_ | refine sw_op_ ?_) | with_reducible (first | refine sw_nil ?_ | refine sq_then ?_ | refine sc_seq ?_ | refine sc_region ?_ | refine sw_guard_skip ?_ | refine sw_guard_skip_ ?_ | refine sw_guard_run ?_ | refine sc_cond_true ?_ | refine sc_cond_false ?_ | refine sc_ret ?_ | refine sq_then_ret ?_ | refine sc_skip ?_ | refine sc_block ?_ | refine sq_block ?_ | refine sq_block_ret ?_ | refine sc_exit ?_ | refine sq_then_exit ?_ | refine sq_block_exit ?_ | refine sq_block_past ?_ | refine sq_round_ret ?_ | refine sq_round_exit ?_) | (with_reducible refine sc_cond (fun h => ?_) (fun h => ?_)) <;> (try (exfalso; first | contradiction | omega | exact h Iff.rfl)) | fail)
  · refine sq_ret1 Try.results82 ?_
    exact ⟨_, .inl ⟨by simpa using h, rfl, rfl⟩, Ent.refl _⟩
  · refine sw_buildSlice [] (by omega) rfl fun b0 => ?_
    repeat' (first | with_reducible (first | refine sw_op ?_ | refine sw_op_ ?_) | with_reducible (first | refine sw_nil ?_ | refine sq_then ?_ | refine sc_seq ?_ | refine sc_region ?_ | refine sw_guard_skip ?_ | refine sw_guard_skip_ ?_ | refine sw_guard_run ?_ | refine sc_cond_true ?_ | refine sc_cond_false ?_ | refine sc_ret ?_ | refine sq_then_ret ?_ | refine sc_skip ?_ | refine sc_block ?_ | refine sq_block ?_ | refine sq_block_ret ?_ | refine sc_exit ?_ | refine sq_then_exit ?_ | refine sq_block_exit ?_ | refine sq_block_past ?_ | refine sq_round_ret ?_ | refine sq_round_exit ?_) | fail)
    refine sw_append (src := src) ?_ h1 ?_ fun b t => ?_
    · exact fun w hw => hr.sat (k := k) hw
    · exact ⟨by omega, rfl, hl, by omega, by omega⟩
    simp only [Nat.zero_add, List.take_nil, List.nil_append]
    repeat' (first | with_reducible (first | refine sw_op ?_ | refine sw_op_ ?_) | with_reducible (first | refine sw_nil ?_ | refine sq_then ?_ | refine sc_seq ?_ | refine sc_region ?_ | refine sw_guard_skip ?_ | refine sw_guard_skip_ ?_ | refine sw_guard_run ?_ | refine sc_cond_true ?_ | refine sc_cond_false ?_ | refine sc_ret ?_ | refine sq_then_ret ?_ | refine sc_skip ?_ | refine sc_block ?_ | refine sq_block ?_ | refine sq_block_ret ?_ | refine sc_exit ?_ | refine sq_then_exit ?_ | refine sq_block_exit ?_ | refine sq_block_past ?_ | refine sq_round_ret ?_ | refine sq_round_exit ?_) | fail)
    refine sq_ret1 Try.results82 ?_
    exact ⟨_, .inr ⟨by simpa using h, b, t, rfl, rfl⟩, Ent.refl _⟩
/-- bytes.Equal -/
theorem bEqual_ok (k1 k2 : Nat) (r1 r2 : HProp) (a b : Option Addr) (m1 c1 m2 c2 : Nat) (xs ys : List Int) (h1 : Reads r1 a (xs.map (Value.int .u8))) (h2 : Reads r2 b (ys.map (Value.int .u8))) (l1 : xs.length = m1) (l2 : ys.length = m2)
    (b1 : ∀ x ∈ xs, 0 ≤ x ∧ x ≤ 255) (b2 : ∀ x ∈ ys, 0 ≤ x ∧ x ≤ 255) :
    Spec Try.prog 15 [.slice a m1 c1, .slice b m2 c2] [k1, k2] [r1, r2] fun F v Rs' => v = .bool (decide (xs = ys)) ∧ Rs' = (k1, r1) :: (k2, r2) :: F := by
  refine spec_of Try.func15 rfl Try.ntmps15 rfl ?_
  intro w0 F
  repeat' (first | with_reducible (first | refine sw_op ?_ | refine sw_op_ ?_) | with_reducible (first | refine sw_nil ?_ | refine sq_then ?_ | refine sc_seq ?_ | refine sc_region ?_ | refine sw_guard_skip ?_ | refine sw_guard_skip_ ?_ | refine sw_guard_run ?_ | refine sc_cond_true ?_ | refine sc_cond_false ?_ | refine sc_ret ?_ | refine sq_then_ret ?_ | refine sc_skip ?_ | refine sc_block ?_ | refine sq_block ?_ | refine sq_block_ret ?_ | refine sc_exit ?_ | refine sq_then_exit ?_ | refine sq_block_exit ?_ | refine sq_block_past ?_ | refine sq_round_ret ?_ | refine sq_round_exit ?_) | fail)
  refine sw_bytes xs ?_ l1 ?_
  · exact fun w hw => h1.sat (k := k1) hw
  repeat' (first | with_reducible (first | refine sw_op ?_ | refine sw_op_ ?_) | with_reducible (first | refine sw_nil ?_ | refine sq_then ?_ | refine sc_seq ?_ | refine sc_region ?_ | refine sw_guard_skip ?_ | refine sw_guard_skip_ ?_ | refine sw_guard_run ?_ | refine sc_cond_true ?_ | refine sc_cond_false ?_ | refine sc_ret ?_ | refine sq_then_ret ?_ | refine sc_skip ?_ | refine sc_block ?_ | refine sq_block ?_ | refine sq_block_ret ?_ | refine sc_exit ?_ | refine sq_then_exit ?_ | refine sq_block_exit ?_ | refine sq_block_past ?_ | refine sq_round_ret ?_ | refine sq_round_exit ?_) | fail)
  refine sw_bytes ys ?_ l2 ?_
  · exact fun w hw => h2.sat (t := Take.there _ _ k2 _ _) hw
  repeat' (first | with_reducible (first | refine sw_op ?_ | refine sw_op_ ?_) | with_reducible (first | refine sw_nil ?_ | refine sq_then ?_ | refine sc_seq ?_ | refine sc_region ?_ | refine sw_guard_skip ?_ | refine sw_guard_skip_ ?_ | refine sw_guard_run ?_ | refine sc_cond_true ?_ | refine sc_cond_false ?_ | refine sc_ret ?_ | refine sq_then_ret ?_ | refine sc_skip ?_ | refine sc_block ?_ | refine sq_block ?_ | refine sq_block_ret ?_ | refine sc_exit ?_ | refine sq_then_exit ?_ | refine sq_block_exit ?_ | refine sq_block_past ?_ | refine sq_round_ret ?_ | refine sq_round_exit ?_) | fail)
  rw [strB_eq b1 b2]
  repeat' (first | with_reducible (first | refine sw_op ?_ | refine sw_op_ ?_) | with_reducible (first | refine sw_nil ?_ | refine sq_then ?_ | refine sc_seq ?_ | refine sc_region ?_ | refine sw_guard_skip ?_ | refine sw_guard_skip_ ?_ | refine sw_guard_run ?_ | refine sc_cond_true ?_ | refine sc_cond_false ?_ | refine sc_ret ?_ | refine sq_then_ret ?_ | refine sc_skip ?_ | refine sc_block ?_ | refine sq_block ?_ | refine sq_block_ret ?_ | refine sc_exit ?_ | refine sq_then_exit ?_ | refine sq_block_exit ?_ | refine sq_block_past ?_ | refine sq_round_ret ?_ | refine sq_round_exit ?_) | fail)
  refine sq_ret1 Try.results15 ?_
  exact ⟨_, ⟨rfl, rfl⟩, Ent.refl _⟩

/-- a sector that begins with a byte, all the rest being another one -/
def secOf (a b : Int) : List Int := a :: List.replicate 511 b
theorem secOf_wf {a b : Int} (ha : 0 ≤ a ∧ a ≤ 255) (hb : 0 ≤ b ∧ b ≤ 255) : SecWf (secOf a b) :=
  ⟨by unfold secOf; rw [List.length_cons, List.length_replicate], fun x hx => by
    unfold secOf at hx
    rcases List.mem_cons.1 hx with rfl | hx
    · exact ha
    · rw [List.eq_of_mem_replicate hx]; exact hb⟩

theorem Sec.left {v : Value} {xs : List Int} {x y : Hp} (h : Sec v xs x) : Sec v xs (hjoin x y) := by
  obtain ⟨b, r, hv, hi⟩ := h
  exact ⟨b, r, hv, imm_left hi⟩
theorem Sec.right {v : Value} {xs : List Int} {x y : Hp} (hd : hdisj x y) (h : Sec v xs y) : Sec v xs (hjoin x y) := by
  rw [hjoin_comm hd]; exact h.left
theorem Secs.left {vs : List Value} {ss : List (List Int)} {x y : Hp} (h : Secs vs ss x) : Secs vs ss (hjoin x y) := fun i v xs h1 h2 => (h i v xs h1 h2).left
theorem DirtyS.left {f : Int → Option Value} {g : Int → Option (List Int)} {x y : Hp} (h : DirtyS f g x) : DirtyS f g (hjoin x y) := fun j => ⟨(h j).1, fun v xs h1 h2 => ((h j).2 v xs h1 h2).left⟩
theorem BoolsI.left {v : Value} {bs : List Bool} {x y : Hp} (h : BoolsI v bs x) : BoolsI v bs (hjoin x y) := by
  rcases h with h | ⟨b, r, hv, hi⟩
  · exact .inl h
  · exact .inr ⟨b, r, hv, imm_left hi⟩
end Go.Gsl
