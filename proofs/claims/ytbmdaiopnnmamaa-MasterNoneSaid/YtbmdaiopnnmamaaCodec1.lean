/- The codec: ints. -/
import Derived.Test.YtbmdaiopnnmamaaInst
import Derived.Test.YtbmdaiopnnmamaaGsl20
namespace Go.Gsl
set_option linter.unusedVariables false
open Go.Proofs

/-- how many bytes a number from 0 on needs -/
def bo (n : Int) : Nat := if n < 256 then 1 else if n < 65536 then 2 else if n < 16777216 then 3 else if n < 4294967296 then 4 else if n < 1099511627776 then 5 else if n < 281474976710656 then 6 else if n < 72057594037927936 then 7 else 8
theorem bo_step {n : Int} (h : 255 < n ∧ n ≤ 9223372036854775807) : bo n = bo (n / 256) + 1 := by
  unfold bo
  repeat' split
  all_goals omega
theorem bo_small {n : Int} (h : n ≤ 255) : bo n = 1 := by unfold bo; rw [if_pos (by omega)]
theorem bo_in (n : Int) : 1 ≤ bo n ∧ bo n ≤ 8 := by
  unfold bo
  repeat' split
  all_goals omega

theorem cBytesOf_ok (n : Int) (h : 0 ≤ n ∧ n ≤ 9223372036854775807) : Spec Try.prog 114 [.int .i64 n] [] [] fun F v Rs' => v = .int .i64 (bo n) ∧ Rs' = F := by
  refine spec_of Try.func114 rfl Try.ntmps114 rfl ?_
  intro w0 F
  repeat' (first | with_reducible (first | refine sw_op ?_ | refine sw_op_ ?_) | with_reducible (first | refine sw_nil ?_ | refine sq_then ?_ | refine sc_seq ?_ | refine sc_region ?_ | refine sw_guard_skip ?_ | refine sw_guard_skip_ ?_ | refine sw_guard_run ?_ | refine sc_cond_true ?_ | refine sc_cond_false ?_ | refine sc_ret ?_ | refine sq_then_ret ?_ | refine sc_skip ?_ | refine sc_block ?_ | refine sq_block ?_ | refine sq_block_ret ?_ | refine sc_exit ?_ | refine sq_then_exit ?_ | refine sq_block_exit ?_ | refine sq_block_past ?_ | refine sq_round_ret ?_ | refine sq_round_exit ?_) | fail)
  refine sc_loop (α := { x : Int × Nat // 0 ≤ x.1 ∧ x.1 ≤ 9223372036854775807 ∧ 1 ≤ x.2 ∧ bo x.1 + x.2 = bo n + 1 }) (fun x => [(0, .int .i64 x.1.1), (3, .int .i64 x.1.2)]) (fun _ => F) (fun x => x.1.1.toNat) ⟨(n, 1), h.1, h.2, Nat.le_refl _, rfl⟩ ?_ ?_ ?_
  · repeat' (first | exact says_nil | refine says_cons rfl ?_ | refine says_cons (by simp) ?_)
  · exact Ent.refl _
  rintro ⟨⟨m, k⟩, hm0, hm1, hk, hb⟩ e
  simp only at hm0 hm1 hk hb
  simp only [List.cons_append, List.nil_append]
  have hb1 := bo_in m
  have hb2 := bo_in n
  repeat' (first | with_reducible (first | refine sw_in (by omega) ?_ | refine sw_op ?_ | refine sw_op_ ?_) | with_reducible (first | refine sw_nil ?_ | refine sq_then ?_ | refine sc_seq ?_ | refine sc_region ?_ | refine sw_guard_skip ?_ | refine sw_guard_skip_ ?_ | refine sw_guard_run ?_ | refine sc_cond_true ?_ | refine sc_cond_false ?_ | refine sc_ret ?_ | refine sq_then_ret ?_ | refine sc_skip ?_ | refine sc_block ?_ | refine sq_block ?_ | refine sq_block_ret ?_ | refine sc_exit ?_ | refine sq_then_exit ?_ | refine sq_block_exit ?_ | refine sq_block_past ?_ | refine sq_round_ret ?_ | refine sq_round_exit ?_) | (with_reducible refine sc_cond (fun h => ?_) (fun h => ?_)) <;> (try (exfalso; first | contradiction | omega | exact h Iff.rfl)) | fail)
  focus
    refine sw_shrP (k := .i64) 8 256 ⟨rfl, by decide, by omega, rfl⟩ ?_
    repeat' (first | with_reducible (first | refine sw_in (by omega) ?_ | refine sw_op ?_ | refine sw_op_ ?_) | with_reducible (first | refine sw_nil ?_ | refine sq_then ?_ | refine sc_seq ?_ | refine sc_region ?_ | refine sw_guard_skip ?_ | refine sw_guard_skip_ ?_ | refine sw_guard_run ?_ | refine sc_cond_true ?_ | refine sc_cond_false ?_ | refine sc_ret ?_ | refine sq_then_ret ?_ | refine sc_skip ?_ | refine sc_block ?_ | refine sq_block ?_ | refine sq_block_ret ?_ | refine sc_exit ?_ | refine sq_then_exit ?_ | refine sq_block_exit ?_ | refine sq_block_past ?_ | refine sq_round_ret ?_ | refine sq_round_exit ?_) | (with_reducible refine sc_cond (fun h => ?_) (fun h => ?_)) <;> (try (exfalso; first | contradiction | omega | exact h Iff.rfl)) | fail)
    have hs := bo_step (n := m) (by omega)
    refine sq_round ⟨(m / 256, k + 1), by omega, by omega, by omega, by simp only; omega⟩ ?_ ?_ ?_
    · show (m / 256).toNat < m.toNat
      omega
    · repeat' (first | exact says_nil | refine says_cons rfl ?_ | refine says_cons (by simp) ?_)
    · exact Ent.refl _
  have hbm := bo_small (n := m) (by omega)
  refine sq_ret1 Try.results114 ?_
  exact ⟨_, ⟨by congr 1; omega, rfl⟩, Ent.refl _⟩

/-- how many bytes an int has -/
def width (n : Int) : Nat := if 100 < n then 1 + bo n else if n < -100 then 1 + bo (-n - 1) else 1
theorem cWidth_ok (n : Int) (h : -9223372036854775808 ≤ n ∧ n ≤ 9223372036854775807) : Spec Try.prog 106 [.int .i64 n] [] [] fun F v Rs' => v = .int .i64 (width n) ∧ Rs' = F := by
  refine spec_of Try.func106 rfl Try.ntmps106 rfl ?_
  intro w0 F
  have hb1 := bo_in n
  have hb2 := bo_in (-n - 1)
  unfold width
  repeat' (first | with_reducible (first | refine sw_in (by omega) ?_ | refine sw_op ?_ | refine sw_op_ ?_) | with_reducible (first | refine sw_nil ?_ | refine sq_then ?_ | refine sc_seq ?_ | refine sc_region ?_ | refine sw_guard_skip ?_ | refine sw_guard_skip_ ?_ | refine sw_guard_run ?_ | refine sc_cond_true ?_ | refine sc_cond_false ?_ | refine sc_ret ?_ | refine sq_then_ret ?_ | refine sc_skip ?_ | refine sc_block ?_ | refine sq_block ?_ | refine sq_block_ret ?_ | refine sc_exit ?_ | refine sq_then_exit ?_ | refine sq_block_exit ?_ | refine sq_block_past ?_ | refine sq_round_ret ?_ | refine sq_round_exit ?_) | (with_reducible refine sc_cond (fun h => ?_) (fun h => ?_)) <;> (try (exfalso; first | contradiction | omega | exact h Iff.rfl)) | (with_reducible refine sw_guard_split (fun h => ?_) (fun h => ?_)) <;> (try (exfalso; first | contradiction | omega | exact h Iff.rfl)) | (with_reducible refine sw_pick (fun h => ?_) (fun h => ?_)) <;> (try (exfalso; first | contradiction | omega | exact h Iff.rfl)) | fail)
  · refine sw_call (cBytesOf_ok n (by omega)) ?_
    rintro _ _ ⟨rfl, rfl⟩
    repeat' (first | with_reducible (first | refine sw_in (by omega) ?_ | refine sw_op ?_ | refine sw_op_ ?_) | with_reducible (first | refine sw_nil ?_ | refine sq_then ?_ | refine sc_seq ?_ | refine sc_region ?_ | refine sw_guard_skip ?_ | refine sw_guard_skip_ ?_ | refine sw_guard_run ?_ | refine sc_cond_true ?_ | refine sc_cond_false ?_ | refine sc_ret ?_ | refine sq_then_ret ?_ | refine sc_skip ?_ | refine sc_block ?_ | refine sq_block ?_ | refine sq_block_ret ?_ | refine sc_exit ?_ | refine sq_then_exit ?_ | refine sq_block_exit ?_ | refine sq_block_past ?_ | refine sq_round_ret ?_ | refine sq_round_exit ?_) | (with_reducible refine sc_cond (fun h => ?_) (fun h => ?_)) <;> (try (exfalso; first | contradiction | omega | exact h Iff.rfl)) | fail)
    refine sq_ret1 Try.results106 ?_
    exact ⟨_, ⟨by rw [if_pos (by omega)]; congr 1, rfl⟩, Ent.refl _⟩
  · refine sw_cpl (by omega) ?_
    repeat' (first | with_reducible (first | refine sw_op ?_ | refine sw_op_ ?_) | with_reducible (first | refine sw_nil ?_ | refine sq_then ?_ | refine sc_seq ?_ | refine sc_region ?_ | refine sw_guard_skip ?_ | refine sw_guard_skip_ ?_ | refine sw_guard_run ?_ | refine sc_cond_true ?_ | refine sc_cond_false ?_ | refine sc_ret ?_ | refine sq_then_ret ?_ | refine sc_skip ?_ | refine sc_block ?_ | refine sq_block ?_ | refine sq_block_ret ?_ | refine sc_exit ?_ | refine sq_then_exit ?_ | refine sq_block_exit ?_ | refine sq_block_past ?_ | refine sq_round_ret ?_ | refine sq_round_exit ?_) | fail)
    refine sw_call (cBytesOf_ok (-n - 1) (by omega)) ?_
    rintro _ _ ⟨rfl, rfl⟩
    repeat' (first | with_reducible (first | refine sw_in (by omega) ?_ | refine sw_op ?_ | refine sw_op_ ?_) | with_reducible (first | refine sw_nil ?_ | refine sq_then ?_ | refine sc_seq ?_ | refine sc_region ?_ | refine sw_guard_skip ?_ | refine sw_guard_skip_ ?_ | refine sw_guard_run ?_ | refine sc_cond_true ?_ | refine sc_cond_false ?_ | refine sc_ret ?_ | refine sq_then_ret ?_ | refine sc_skip ?_ | refine sc_block ?_ | refine sq_block ?_ | refine sq_block_ret ?_ | refine sc_exit ?_ | refine sq_then_exit ?_ | refine sq_block_exit ?_ | refine sq_block_past ?_ | refine sq_round_ret ?_ | refine sq_round_exit ?_) | (with_reducible refine sc_cond (fun h => ?_) (fun h => ?_)) <;> (try (exfalso; first | contradiction | omega | exact h Iff.rfl)) | fail)
    refine sq_ret1 Try.results106 ?_
    exact ⟨_, ⟨by rw [if_neg (by omega), if_pos (by omega)]; congr 1, rfl⟩, Ent.refl _⟩
  · refine sq_ret1 Try.results106 ?_
    exact ⟨_, ⟨by rw [if_neg (by omega), if_neg (by omega)]; rfl, rfl⟩, Ent.refl _⟩

/-- the bytes of a number, the highest one first -/
def beB (k : Nat) (n : Int) : List Int := (List.range k).map fun i => n / 256 ^ (k - 1 - i) % 256
theorem beB_len (k : Nat) (n : Int) : (beB k n).length = k := by unfold beB; simp
/-- an int's bytes -/
def intB (n : Int) : List Int :=
  if width n = 1 then [n + 108] else if n < 0 then (9 - width n : Int) :: (beB (width n - 1) (-n - 1)).map (255 - ·) else (207 + width n : Int) :: beB (width n - 1) n
theorem width_in (n : Int) : 1 ≤ width n ∧ width n ≤ 9 := by
  have h1 := bo_in n
  have h2 := bo_in (-n - 1)
  unfold width
  repeat' split
  all_goals omega
theorem width_one {n : Int} (h : width n = 1) : -100 ≤ n ∧ n ≤ 100 := by
  have h1 := bo_in n
  have h2 := bo_in (-n - 1)
  unfold width at h
  split at h
  · omega
  · split at h <;> omega
theorem beB_byt (k : Nat) (n : Int) : Byt (beB k n) := by
  intro x hx
  unfold beB at hx
  obtain ⟨i, _, rfl⟩ := List.mem_map.1 hx
  omega
theorem intB_byt (n : Int) : Byt (intB n) := by
  have hw := width_in n
  unfold intB
  split
  · rename_i h
    have := width_one h
    intro x hx
    rw [List.mem_singleton.1 hx]; omega
  · split
    · intro x hx
      rcases List.mem_cons.1 hx with rfl | hx
      · omega
      · obtain ⟨y, hy, rfl⟩ := List.mem_map.1 hx
        have := beB_byt _ _ y hy
        omega
    · intro x hx
      rcases List.mem_cons.1 hx with rfl | hx
      · omega
      · exact beB_byt _ _ x hx
theorem intB_len (n : Int) : (intB n).length = width n := by
  have hw := width_in n
  unfold intB
  split
  · simp; omega
  · split <;> simp [beB_len] <;> omega

/-- slices.Clip -/
theorem clipB_ok (k : Nat) (r : HProp) (v : Value) (bs : List Int) (h : RdB r v bs) : Spec Try.prog 105 [v] [k] [r] fun F w Rs' => ((w = .slice none 0 0 ∧ bs = []) ∨ ∃ b o, w = .slice (some ⟨b, o, none⟩) bs.length bs.length ∧ Reads r (some ⟨b, o, none⟩) (bs.map (Value.int .u8))) ∧ Rs' = (k, r) :: F := by
  refine spec_of Try.func105 rfl Try.ntmps105 rfl ?_
  intro w0 F
  cases h with
  | nil =>
    repeat' (first | with_reducible (first | refine sw_op ?_ | refine sw_op_ ?_) | with_reducible (first | refine sw_nil ?_ | refine sq_then ?_ | refine sc_seq ?_ | refine sc_region ?_ | refine sw_guard_skip ?_ | refine sw_guard_skip_ ?_ | refine sw_guard_run ?_ | refine sc_cond_true ?_ | refine sc_cond_false ?_ | refine sc_ret ?_ | refine sq_then_ret ?_ | refine sc_skip ?_ | refine sc_block ?_ | refine sq_block ?_ | refine sq_block_ret ?_ | refine sc_exit ?_ | refine sq_then_exit ?_ | refine sq_block_exit ?_ | refine sq_block_past ?_ | refine sq_round_ret ?_ | refine sq_round_exit ?_) | fail)
    refine sw_slice_nil (by omega) ⟨rfl, rfl, rfl⟩ ?_
    repeat' (first | with_reducible (first | refine sw_op ?_ | refine sw_op_ ?_) | with_reducible (first | refine sw_nil ?_ | refine sq_then ?_ | refine sc_seq ?_ | refine sc_region ?_ | refine sw_guard_skip ?_ | refine sw_guard_skip_ ?_ | refine sw_guard_run ?_ | refine sc_cond_true ?_ | refine sc_cond_false ?_ | refine sc_ret ?_ | refine sq_then_ret ?_ | refine sc_skip ?_ | refine sc_block ?_ | refine sq_block ?_ | refine sq_block_ret ?_ | refine sc_exit ?_ | refine sq_then_exit ?_ | refine sq_block_exit ?_ | refine sq_block_past ?_ | refine sq_round_ret ?_ | refine sq_round_exit ?_) | fail)
    refine sq_ret1 Try.results105 ?_
    exact ⟨_, ⟨.inl ⟨rfl, rfl⟩, rfl⟩, Ent.refl _⟩
  | row b o c bs hc hr =>
    repeat' (first | with_reducible (first | refine sw_op ?_ | refine sw_op_ ?_) | with_reducible (first | refine sw_nil ?_ | refine sq_then ?_ | refine sc_seq ?_ | refine sc_region ?_ | refine sw_guard_skip ?_ | refine sw_guard_skip_ ?_ | refine sw_guard_run ?_ | refine sc_cond_true ?_ | refine sc_cond_false ?_ | refine sc_ret ?_ | refine sq_then_ret ?_ | refine sc_skip ?_ | refine sc_block ?_ | refine sq_block ?_ | refine sq_block_ret ?_ | refine sc_exit ?_ | refine sq_then_exit ?_ | refine sq_block_exit ?_ | refine sq_block_past ?_ | refine sq_round_ret ?_ | refine sq_round_exit ?_) | fail)
    refine sw_slice 0 bs.length bs.length o (by omega) ⟨rfl, rfl, rfl, by split <;> rfl⟩ ?_
    repeat' (first | with_reducible (first | refine sw_op ?_ | refine sw_op_ ?_) | with_reducible (first | refine sw_nil ?_ | refine sq_then ?_ | refine sc_seq ?_ | refine sc_region ?_ | refine sw_guard_skip ?_ | refine sw_guard_skip_ ?_ | refine sw_guard_run ?_ | refine sc_cond_true ?_ | refine sc_cond_false ?_ | refine sc_ret ?_ | refine sq_then_ret ?_ | refine sc_skip ?_ | refine sc_block ?_ | refine sq_block ?_ | refine sq_block_ret ?_ | refine sc_exit ?_ | refine sq_then_exit ?_ | refine sq_block_exit ?_ | refine sq_block_past ?_ | refine sq_round_ret ?_ | refine sq_round_exit ?_) | fail)
    refine sq_ret1 Try.results105 ?_
    exact ⟨_, ⟨.inr ⟨b, o, rfl, hr⟩, rfl⟩, Ent.refl _⟩
end Go.Gsl
