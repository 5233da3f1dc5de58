/- The document's codec: ints. -/
import Derived.Test.YtbmdaiopnnmamaaBackLQ
namespace Go.Gsl
set_option linter.unusedVariables false
open Go.Proofs

theorem bo_ge {n : Int} (h : 2 ≤ bo n) : (256 : Int) ^ (bo n - 1) ≤ n := by
  by_cases c1 : n < 256
  · have e : bo n = 1 := by unfold bo; rw [if_pos c1]
    omega
  by_cases c2 : n < 65536
  · have e : bo n = 2 := by unfold bo; rw [if_neg c1, if_pos c2]
    rw [e, show (256 : Int) ^ (2 - 1) = 256 from rfl]
    omega
  by_cases c3 : n < 16777216
  · have e : bo n = 3 := by unfold bo; rw [if_neg c1, if_neg c2, if_pos c3]
    rw [e, show (256 : Int) ^ (3 - 1) = 65536 from rfl]
    omega
  by_cases c4 : n < 4294967296
  · have e : bo n = 4 := by unfold bo; rw [if_neg c1, if_neg c2, if_neg c3, if_pos c4]
    rw [e, show (256 : Int) ^ (4 - 1) = 16777216 from rfl]
    omega
  by_cases c5 : n < 1099511627776
  · have e : bo n = 5 := by unfold bo; rw [if_neg c1, if_neg c2, if_neg c3, if_neg c4, if_pos c5]
    rw [e, show (256 : Int) ^ (5 - 1) = 4294967296 from rfl]
    omega
  by_cases c6 : n < 281474976710656
  · have e : bo n = 6 := by unfold bo; rw [if_neg c1, if_neg c2, if_neg c3, if_neg c4, if_neg c5, if_pos c6]
    rw [e, show (256 : Int) ^ (6 - 1) = 1099511627776 from rfl]
    omega
  by_cases c7 : n < 72057594037927936
  · have e : bo n = 7 := by unfold bo; rw [if_neg c1, if_neg c2, if_neg c3, if_neg c4, if_neg c5, if_neg c6, if_pos c7]
    rw [e, show (256 : Int) ^ (7 - 1) = 281474976710656 from rfl]
    omega
  have e : bo n = 8 := by unfold bo; rw [if_neg c1, if_neg c2, if_neg c3, if_neg c4, if_neg c5, if_neg c6, if_neg c7]
  rw [e, show (256 : Int) ^ (8 - 1) = 72057594037927936 from rfl]
  omega
theorem pow256_le {a b : Nat} (h : a ≤ b) : (256 : Int) ^ a ≤ 256 ^ b := by
  have : (256 ^ a : Nat) ≤ 256 ^ b := Nat.pow_le_pow_right (by omega) h
  have h2 := Int.ofNat_le.2 this
  rw [Int.natCast_pow, Int.natCast_pow] at h2
  exact h2
/-- the digits behind i rounds -/
def digs (u : Int) (i : Nat) : List Int := (beB (bo u) u).take (i - (8 - bo u))
theorem digs_len (u : Int) (i : Nat) : (digs u i).length = min (i - (8 - bo u)) (bo u) := by unfold digs; rw [List.length_take, beB_len]
theorem digs_small {u : Int} {i : Nat} (h : i ≤ 8 - bo u) : digs u i = [] := by unfold digs; rw [show i - (8 - bo u) = 0 by omega, List.take_zero]
theorem digs_succ {u : Int} {i : Nat} (h1 : 8 - bo u ≤ i) (h2 : i < 8) : digs u (i + 1) = digs u i ++ [u / 256 ^ (7 - i) % 256] := by
  have hb := bo_in u
  unfold digs
  rw [show i + 1 - (8 - bo u) = (i - (8 - bo u)) + 1 by omega, List.take_add_one]
  congr 1
  unfold beB
  rw [List.getElem?_map, List.getElem?_range (by omega), Option.map_some, show bo u - 1 - (i - (8 - bo u)) = 7 - i by omega]
  rfl
theorem digs_all (u : Int) : digs u 8 = beB (bo u) u := by
  have hb := bo_in u
  unfold digs
  exact List.take_of_length_le (by rw [beB_len]; omega)
theorem dig_zero {u : Int} (hu : 0 ≤ u ∧ u ≤ 9223372036854775807) {i : Nat} (h : i < 8 - bo u) : u / 256 ^ (7 - i) % 256 = 0 := by
  have h1 := bo_lt hu
  have h2 : (256 : Int) ^ bo u ≤ 256 ^ (7 - i) := pow256_le (by omega)
  rw [Int.ediv_eq_zero_of_lt hu.1 (by omega)]
  rfl
theorem dig_top {u : Int} (hu : 0 ≤ u ∧ u ≤ 9223372036854775807) {i : Nat} (h : i = 8 - bo u) (h2 : 2 ≤ bo u) : u / 256 ^ (7 - i) % 256 ≠ 0 := by
  have hb := bo_in u
  have h1 := bo_lt hu
  have h3 := bo_ge h2
  rw [show 7 - i = bo u - 1 by omega]
  have h4 : (256 : Int) ^ bo u = 256 ^ (bo u - 1) * 256 := by
    rw [show bo u = (bo u - 1) + 1 by omega]
    exact pow_succ256 _
  rw [h4] at h1
  have hp : (0 : Int) < 256 ^ (bo u - 1) := Int.pow_pos (by omega)
  generalize (256 : Int) ^ (bo u - 1) = p at *
  have h5 : 1 ≤ u / p := Int.le_ediv_of_mul_le hp (by omega)
  have h6 : u / p < 256 := Int.ediv_lt_of_lt_mul hp (by rw [Int.mul_comm]; exact h1)
  omega

set_option maxHeartbeats 1000000 in
theorem q1Digits_ok (k : Nat) (r : HProp) (u : Int) (hu : 0 ≤ u ∧ u ≤ 9223372036854775807) : Spec Try.prog 115 [.int .u64 u] [k] [r]
    fun F w Rs' => ∃ b t, w = .slice (some ⟨b, 0, none⟩) (beB (bo u) u).length ((beB (bo u) u).length + t.length) ∧ Rs' = (b, pts b (.cells ((beB (bo u) u).map (Value.int .u8) ++ t).toArray 5 (0, 0))) :: (k, r) :: F := by
  refine spec_of Try.func115 rfl Try.ntmps115 rfl ?_
  intro w0 F
  have hb := bo_in u
  repeat' (first | with_reducible (first | refine sw_op ?_ | refine sw_op_ ?_) | with_reducible (first | refine sw_nil ?_ | refine sq_then ?_ | refine sc_seq ?_ | refine sc_region ?_ | refine sw_guard_skip ?_ | refine sw_guard_skip_ ?_ | refine sw_guard_run ?_ | refine sc_cond_true ?_ | refine sc_cond_false ?_ | refine sc_ret ?_ | refine sq_then_ret ?_ | refine sc_skip ?_ | refine sc_block ?_ | refine sq_block ?_ | refine sq_block_ret ?_ | refine sc_exit ?_ | refine sq_then_exit ?_ | refine sq_block_exit ?_ | refine sq_block_past ?_ | refine sq_round_ret ?_ | refine sq_round_exit ?_) | fail)
  refine sc_loop (α := { x : Nat × Option (Nat × List Value) // x.1 ≤ 8 ∧ (x.2 = none ↔ x.1 ≤ 8 - bo u) }) (fun x => [(0, .int .u64 u), (3, bufV (digs u x.1.1).length x.1.2), (4, .int .i64 (7 - (x.1.1 : Int)))])
    (fun x => bufR 5 (digs u x.1.1) ((k, r) :: F) x.1.2) (fun x => 8 - x.1.1) ⟨(0, none), Nat.zero_le _, by simp⟩ ?_ ?_ ?_
  · refine says_cons rfl (says_cons ?_ (says_cons rfl says_nil))
    rfl
  · exact Ent.refl _
  rintro ⟨⟨i, o⟩, hi, hn⟩ e
  (try simp only at hi hn)
  simp only [List.cons_append, List.nil_append]
  have hdl := digs_len u i
  repeat' (first | with_reducible (first | refine sw_in (by omega) ?_ | refine sw_op ?_ | refine sw_op_ ?_) | with_reducible (first | refine sw_nil ?_ | refine sq_then ?_ | refine sc_seq ?_ | refine sc_region ?_ | refine sw_guard_skip ?_ | refine sw_guard_skip_ ?_ | refine sw_guard_run ?_ | refine sc_cond_true ?_ | refine sc_cond_false ?_ | refine sc_ret ?_ | refine sq_then_ret ?_ | refine sc_skip ?_ | refine sc_block ?_ | refine sq_block ?_ | refine sq_block_ret ?_ | refine sc_exit ?_ | refine sq_then_exit ?_ | refine sq_block_exit ?_ | refine sq_block_past ?_ | refine sq_round_ret ?_ | refine sq_round_exit ?_) | (with_reducible refine sc_cond (fun h => ?_) (fun h => ?_)) <;> (try (exfalso; first | contradiction | omega | exact h Iff.rfl)) | fail)
  · refine sw_shrP (k := .u64) (8 * (7 - i)) (256 ^ (7 - i)) ⟨by omega, by show _ ≤ 64; omega, by omega, pow256 _⟩ ?_
    repeat' (first | with_reducible (first | refine sw_op ?_ | refine sw_op_ ?_) | with_reducible (first | refine sw_nil ?_ | refine sq_then ?_ | refine sc_seq ?_ | refine sc_region ?_ | refine sw_guard_skip ?_ | refine sw_guard_skip_ ?_ | refine sw_guard_run ?_ | refine sc_cond_true ?_ | refine sc_cond_false ?_ | refine sc_ret ?_ | refine sq_then_ret ?_ | refine sc_skip ?_ | refine sc_block ?_ | refine sq_block ?_ | refine sq_block_ret ?_ | refine sc_exit ?_ | refine sq_then_exit ?_ | refine sq_block_exit ?_ | refine sq_block_past ?_ | refine sq_round_ret ?_ | refine sq_round_exit ?_) | fail)
    rw [wrap_u8_mod]
    have hx : 0 ≤ u / 256 ^ (7 - i) % 256 ∧ u / 256 ^ (7 - i) % 256 ≤ 255 := by omega
    rcases Nat.lt_or_ge i (8 - bo u) with hlo | hhi
    · -- nothing so far
      have h0 := hn.2 (by omega)
      subst h0
      have hz := dig_zero hu hlo
      have hd := digs_small (u := u) (i := i) (by omega)
      have hd1 := digs_small (u := u) (i := i + 1) (by omega)
      rw [hz, hd]
      simp only [bufV, bufR]
      repeat' (first | with_reducible (first | refine sw_in (by omega) ?_ | refine sw_op ?_ | refine sw_op_ ?_) | with_reducible refine sw_guard_skip_u ?_ | with_reducible (first | refine sw_nil ?_ | refine sq_then ?_ | refine sc_seq ?_ | refine sc_region ?_ | refine sw_guard_skip ?_ | refine sw_guard_skip_ ?_ | refine sw_guard_run ?_ | refine sc_cond_true ?_ | refine sc_cond_false ?_ | refine sc_ret ?_ | refine sq_then_ret ?_ | refine sc_skip ?_ | refine sc_block ?_ | refine sq_block ?_ | refine sq_block_ret ?_ | refine sc_exit ?_ | refine sq_then_exit ?_ | refine sq_block_exit ?_ | refine sq_block_past ?_ | refine sq_round_ret ?_ | refine sq_round_exit ?_) | (with_reducible refine sw_guard_split (fun h => ?_) (fun h => ?_)) <;> (try (exfalso; first | contradiction | omega | exact h Iff.rfl)) | (with_reducible refine sc_cond (fun h => ?_) (fun h => ?_)) <;> (try (exfalso; first | contradiction | omega | exact h Iff.rfl)) | (with_reducible refine sw_pick (fun h => ?_) (fun h => ?_)) <;> (try (exfalso; first | contradiction | omega | exact h Iff.rfl)) | fail)
      refine sq_round ⟨(i + 1, none), by omega, by simp; omega⟩ ?_ ?_ ?_
      · show 8 - (i + 1) < 8 - i
        omega
      · dsimp only [bufV]
        refine says_cons rfl (says_cons rfl (says_cons ?_ says_nil))
        have : (7 : Int) - ((i + 1 : Nat) : Int) = 7 - (i : Int) - 1 := by omega
        rw [this]
        try rfl
      · exact Ent.refl _
    · have hds := digs_succ hhi (by omega)
      rcases o with _ | ⟨b, t⟩
      · -- the first one
        have h0 := hn.1 rfl
        have he : i = 8 - bo u := by omega
        have hd := digs_small (u := u) (i := i) (by omega)
        have htop : u / 256 ^ (7 - i) % 256 ≠ 0 ∨ (7 - (i : Int)) = 0 := by
          rcases Nat.lt_or_ge (bo u) 2 with h | h
          · right; omega
          · left; exact dig_top hu he h
        rw [hd, List.nil_append] at hds
        rw [hd]
        simp only [bufV, bufR]
        generalize u / 256 ^ (7 - i) % 256 = x at *
        repeat' (first | with_reducible (first | refine sw_in (by omega) ?_ | refine sw_op ?_ | refine sw_op_ ?_) | with_reducible refine sw_guard_skip_u ?_ | with_reducible (first | refine sw_nil ?_ | refine sq_then ?_ | refine sc_seq ?_ | refine sc_region ?_ | refine sw_guard_skip ?_ | refine sw_guard_skip_ ?_ | refine sw_guard_run ?_ | refine sc_cond_true ?_ | refine sc_cond_false ?_ | refine sc_ret ?_ | refine sq_then_ret ?_ | refine sc_skip ?_ | refine sc_block ?_ | refine sq_block ?_ | refine sq_block_ret ?_ | refine sc_exit ?_ | refine sq_then_exit ?_ | refine sq_block_exit ?_ | refine sq_block_past ?_ | refine sq_round_ret ?_ | refine sq_round_exit ?_) | (with_reducible refine sw_guard_split (fun h => ?_) (fun h => ?_)) <;> (try (exfalso; first | contradiction | omega | exact h Iff.rfl)) | (with_reducible refine sc_cond (fun h => ?_) (fun h => ?_)) <;> (try (exfalso; first | contradiction | omega | exact h Iff.rfl)) | (with_reducible refine sw_pick (fun h => ?_) (fun h => ?_)) <;> (try (exfalso; first | contradiction | omega | exact h Iff.rfl)) | fail)
        all_goals
          refine sw_buildSlice [.int .u8 x] (by omega) rfl fun b1 => ?_
          refine sw_append_nil (src := [Value.int .u8 x]) src_pts0 ⟨by simp, rfl, by simp, by simp⟩ fun b4 t4 => ?_
          repeat' (first | with_reducible (first | refine sw_in (by omega) ?_ | refine sw_op ?_ | refine sw_op_ ?_) | with_reducible (first | refine sw_nil ?_ | refine sq_then ?_ | refine sc_seq ?_ | refine sc_region ?_ | refine sw_guard_skip ?_ | refine sw_guard_skip_ ?_ | refine sw_guard_run ?_ | refine sc_cond_true ?_ | refine sc_cond_false ?_ | refine sc_ret ?_ | refine sq_then_ret ?_ | refine sc_skip ?_ | refine sc_block ?_ | refine sq_block ?_ | refine sq_block_ret ?_ | refine sc_exit ?_ | refine sq_then_exit ?_ | refine sq_block_exit ?_ | refine sq_block_past ?_ | refine sq_round_ret ?_ | refine sq_round_exit ?_) | (with_reducible refine sc_cond (fun h => ?_) (fun h => ?_)) <;> (try (exfalso; first | contradiction | omega | exact h Iff.rfl)) | fail)
          refine sq_round ⟨(i + 1, some (b4, t4)), by omega, by simp; omega⟩ ?_ ?_ ?_
          · show 8 - (i + 1) < 8 - i
            omega
          · dsimp only [bufV]
            rw [hds]
            refine says_cons rfl (says_cons rfl (says_cons ?_ says_nil))
            have : (7 : Int) - ((i + 1 : Nat) : Int) = 7 - (i : Int) - 1 := by omega
            rw [this]
            try rfl
          · show Ent _ ((b4, pts b4 (.cells ((digs u (i + 1)).map (Value.int .u8) ++ t4).toArray 5 (0, 0))) :: (k, r) :: F)
            rw [hds]
            repeat' (first | with_reducible exact Ent.refl _ | with_reducible refine Ent.take_eq ?_ ?_ | rfl | with_reducible refine Ent.trans (Ent.drop _ _) ?_)
      · have hpos : 0 < (digs u i).length := by
          rcases Nat.lt_or_ge (8 - bo u) i with h | h
          · omega
          · exact absurd (hn.2 h) (by simp)
        simp only [bufV, bufR]
        generalize u / 256 ^ (7 - i) % 256 = x at *
        repeat' (first | with_reducible (first | refine sw_in (by omega) ?_ | refine sw_op ?_ | refine sw_op_ ?_) | with_reducible refine sw_guard_skip_u ?_ | with_reducible (first | refine sw_nil ?_ | refine sq_then ?_ | refine sc_seq ?_ | refine sc_region ?_ | refine sw_guard_skip ?_ | refine sw_guard_skip_ ?_ | refine sw_guard_run ?_ | refine sc_cond_true ?_ | refine sc_cond_false ?_ | refine sc_ret ?_ | refine sq_then_ret ?_ | refine sc_skip ?_ | refine sc_block ?_ | refine sq_block ?_ | refine sq_block_ret ?_ | refine sc_exit ?_ | refine sq_then_exit ?_ | refine sq_block_exit ?_ | refine sq_block_past ?_ | refine sq_round_ret ?_ | refine sq_round_exit ?_) | (with_reducible refine sw_guard_split (fun h => ?_) (fun h => ?_)) <;> (try (exfalso; first | contradiction | omega | exact h Iff.rfl)) | (with_reducible refine sc_cond (fun h => ?_) (fun h => ?_)) <;> (try (exfalso; first | contradiction | omega | exact h Iff.rfl)) | (with_reducible refine sw_pick (fun h => ?_) (fun h => ?_)) <;> (try (exfalso; first | contradiction | omega | exact h Iff.rfl)) | fail)
        all_goals
          refine sw_buildSlice [.int .u8 x] (by omega) rfl fun b1 => ?_
          refine sw_append (src := [Value.int .u8 x]) src_pts0 (by simp [Value.oneCell']) ⟨by omega, by rw [List.length_append, List.length_map], rfl, by simp only [List.length_singleton]; omega, by simp only [List.length_singleton]; omega⟩ fun b4 t4 => ?_
          rw [List.take_left' (by rw [List.length_map])]
          repeat' (first | with_reducible (first | refine sw_in (by omega) ?_ | refine sw_op ?_ | refine sw_op_ ?_) | with_reducible (first | refine sw_nil ?_ | refine sq_then ?_ | refine sc_seq ?_ | refine sc_region ?_ | refine sw_guard_skip ?_ | refine sw_guard_skip_ ?_ | refine sw_guard_run ?_ | refine sc_cond_true ?_ | refine sc_cond_false ?_ | refine sc_ret ?_ | refine sq_then_ret ?_ | refine sc_skip ?_ | refine sc_block ?_ | refine sq_block ?_ | refine sq_block_ret ?_ | refine sc_exit ?_ | refine sq_then_exit ?_ | refine sq_block_exit ?_ | refine sq_block_past ?_ | refine sq_round_ret ?_ | refine sq_round_exit ?_) | (with_reducible refine sc_cond (fun h => ?_) (fun h => ?_)) <;> (try (exfalso; first | contradiction | omega | exact h Iff.rfl)) | fail)
          refine sq_round ⟨(i + 1, some (b4, t4)), by omega, by simp; omega⟩ ?_ ?_ ?_
          · show 8 - (i + 1) < 8 - i
            omega
          · dsimp only [bufV]
            rw [hds, List.length_append]
            refine says_cons rfl (says_cons rfl (says_cons ?_ says_nil))
            have : (7 : Int) - ((i + 1 : Nat) : Int) = 7 - (i : Int) - 1 := by omega
            rw [this]
            try rfl
          · show Ent _ ((b4, pts b4 (.cells ((digs u (i + 1)).map (Value.int .u8) ++ t4).toArray 5 (0, 0))) :: (k, r) :: F)
            rw [hds, List.map_append]
            repeat' (first | with_reducible exact Ent.refl _ | with_reducible refine Ent.take_eq ?_ ?_ | rfl | with_reducible refine Ent.trans (Ent.drop _ _) ?_)
  · have h8 : i = 8 := by omega
    subst h8
    rcases o with _ | ⟨b, t⟩
    · have := hn.1 rfl
      omega
    simp only [bufV, bufR]
    rw [digs_all]
    repeat' (first | with_reducible (first | refine sw_op ?_ | refine sw_op_ ?_) | with_reducible (first | refine sw_nil ?_ | refine sq_then ?_ | refine sc_seq ?_ | refine sc_region ?_ | refine sw_guard_skip ?_ | refine sw_guard_skip_ ?_ | refine sw_guard_run ?_ | refine sc_cond_true ?_ | refine sc_cond_false ?_ | refine sc_ret ?_ | refine sq_then_ret ?_ | refine sc_skip ?_ | refine sc_block ?_ | refine sq_block ?_ | refine sq_block_ret ?_ | refine sc_exit ?_ | refine sq_then_exit ?_ | refine sq_block_exit ?_ | refine sq_block_past ?_ | refine sq_round_ret ?_ | refine sq_round_exit ?_) | fail)
    refine sq_ret1 Try.results115 ?_
    exact ⟨_, ⟨b, t, rfl, rfl⟩, Ent.refl _⟩
end Go.Gsl
