/- The document's codec: ints. -/
import Derived.Test.YtbmdaiopnnmamaaGK
import Derived.Test.YtbmdaiopnnmamaaGB
import Derived.Test.YtbmdaiopnnmamaaGD
import Derived.Test.YtbmdaiopnnmamaaGE
namespace Go.Gsl
set_option linter.unusedVariables false
open Go.Proofs

theorem bo_ge {n : Int} (h : 2 ≤ bo n) : (256 : Int) ^ (bo n - 1) ≤ n := by
  by_cases c1 : n < 256
  · have e : bo n = 1 := by unfold bo; rw [if_pos c1]
    omega
  by_cases c2 : n < 65536
  · have e : bo n = 2 := by unfold bo; rw [if_neg c1, if_pos c2]
    rw [e, show (256 : Int) ^ (2 - 1) = 256 from rfl]
    omega
  by_cases c3 : n < 16777216
  · have e : bo n = 3 := by unfold bo; rw [if_neg c1, if_neg c2, if_pos c3]
    rw [e, show (256 : Int) ^ (3 - 1) = 65536 from rfl]
    omega
  by_cases c4 : n < 4294967296
  · have e : bo n = 4 := by unfold bo; rw [if_neg c1, if_neg c2, if_neg c3, if_pos c4]
    rw [e, show (256 : Int) ^ (4 - 1) = 16777216 from rfl]
    omega
  by_cases c5 : n < 1099511627776
  · have e : bo n = 5 := by unfold bo; rw [if_neg c1, if_neg c2, if_neg c3, if_neg c4, if_pos c5]
    rw [e, show (256 : Int) ^ (5 - 1) = 4294967296 from rfl]
    omega
  by_cases c6 : n < 281474976710656
  · have e : bo n = 6 := by unfold bo; rw [if_neg c1, if_neg c2, if_neg c3, if_neg c4, if_neg c5, if_pos c6]
    rw [e, show (256 : Int) ^ (6 - 1) = 1099511627776 from rfl]
    omega
  by_cases c7 : n < 72057594037927936
  · have e : bo n = 7 := by unfold bo; rw [if_neg c1, if_neg c2, if_neg c3, if_neg c4, if_neg c5, if_neg c6, if_pos c7]
    rw [e, show (256 : Int) ^ (7 - 1) = 281474976710656 from rfl]
    omega
  have e : bo n = 8 := by unfold bo; rw [if_neg c1, if_neg c2, if_neg c3, if_neg c4, if_neg c5, if_neg c6, if_neg c7]
  rw [e, show (256 : Int) ^ (8 - 1) = 72057594037927936 from rfl]
  omega
theorem pow256_le {a b : Nat} (h : a ≤ b) : (256 : Int) ^ a ≤ 256 ^ b := by
  have : (256 ^ a : Nat) ≤ 256 ^ b := Nat.pow_le_pow_right (by omega) h
  have h2 := Int.ofNat_le.2 this
  rw [Int.natCast_pow, Int.natCast_pow] at h2
  exact h2
/-- the digits behind i rounds -/
def digs (u : Int) (i : Nat) : List Int := (beB (bo u) u).take (i - (8 - bo u))
theorem digs_len (u : Int) (i : Nat) : (digs u i).length = min (i - (8 - bo u)) (bo u) := by unfold digs; rw [List.length_take, beB_len]
theorem digs_small {u : Int} {i : Nat} (h : i ≤ 8 - bo u) : digs u i = [] := by unfold digs; rw [show i - (8 - bo u) = 0 by omega, List.take_zero]
theorem digs_succ {u : Int} {i : Nat} (h1 : 8 - bo u ≤ i) (h2 : i < 8) : digs u (i + 1) = digs u i ++ [u / 256 ^ (7 - i) % 256] := by
  have hb := bo_in u
  unfold digs
  rw [show i + 1 - (8 - bo u) = (i - (8 - bo u)) + 1 by omega, List.take_add_one]
  congr 1
  unfold beB
  rw [List.getElem?_map, List.getElem?_range (by omega), Option.map_some, show bo u - 1 - (i - (8 - bo u)) = 7 - i by omega]
  rfl
theorem digs_all (u : Int) : digs u 8 = beB (bo u) u := by
  have hb := bo_in u
  unfold digs
  exact List.take_of_length_le (by rw [beB_len]; omega)
theorem dig_zero {u : Int} (hu : 0 ≤ u ∧ u ≤ 9223372036854775807) {i : Nat} (h : i < 8 - bo u) : u / 256 ^ (7 - i) % 256 = 0 := by
  have h1 := bo_lt hu
  have h2 : (256 : Int) ^ bo u ≤ 256 ^ (7 - i) := pow256_le (by omega)
  rw [Int.ediv_eq_zero_of_lt hu.1 (by omega)]
  rfl
theorem dig_top {u : Int} (hu : 0 ≤ u ∧ u ≤ 9223372036854775807) {i : Nat} (h : i = 8 - bo u) (h2 : 2 ≤ bo u) : u / 256 ^ (7 - i) % 256 ≠ 0 := by
  have hb := bo_in u
  have h1 := bo_lt hu
  have h3 := bo_ge h2
  rw [show 7 - i = bo u - 1 by omega]
  have h4 : (256 : Int) ^ bo u = 256 ^ (bo u - 1) * 256 := by
    rw [show bo u = (bo u - 1) + 1 by omega]
    exact pow_succ256 _
  rw [h4] at h1
  have hp : (0 : Int) < 256 ^ (bo u - 1) := Int.pow_pos (by omega)
  generalize (256 : Int) ^ (bo u - 1) = p at *
  have h5 : 1 ≤ u / p := Int.le_ediv_of_mul_le hp (by omega)
  have h6 : u / p < 256 := Int.ediv_lt_of_lt_mul hp (by rw [Int.mul_comm]; exact h1)
  omega

set_option maxHeartbeats 1000000 in
theorem q1Digits_ok (k : Nat) (r : HProp) (u : Int) (hu : 0 ≤ u ∧ u ≤ 9223372036854775807) : Spec Try.prog 115 [.int .u64 u] [k] [r]
    fun F w Rs' => ∃ b t, w = .slice (some ⟨b, 0, none⟩) (beB (bo u) u).length ((beB (bo u) u).length + t.length) ∧ Rs' = (b, pts b (.cells ((beB (bo u) u).map (Value.int .u8) ++ t).toArray 5 (0, 0))) :: (k, r) :: F := by
  refine spec_of Try.func115 rfl Try.ntmps115 rfl ?_
  intro w0 F
  have hb := bo_in u
  repeat' (first | with_reducible (first | refine go1 ?_ | refine sct ?_ | refine scf ?_ | refine sgr ?_) | fail)
  refine sc_loop (α := { x : Nat × Option (Nat × List Value) // x.1 ≤ 8 ∧ (x.2 = none ↔ x.1 ≤ 8 - bo u) }) (fun x => [(0, .int .u64 u), (3, bufV (digs u x.1.1).length x.1.2), (4, .int .i64 (7 - (x.1.1 : Int)))])
    (fun x => bufR 5 (digs u x.1.1) ((k, r) :: F) x.1.2) (fun x => 8 - x.1.1) ⟨(0, none), Nat.zero_le _, by simp⟩ ?_ ?_ ?_
  · refine says_cons rfl (says_cons ?_ (says_cons rfl says_nil))
    rfl
  · exact Ent.refl _
  rintro ⟨⟨i, o⟩, hi, hn⟩ e
  (try simp only at hi hn)
  simp only [List.cons_append, List.nil_append]
  have hdl := digs_len u i
  repeat' (first | with_reducible refine sw_in (by omega) ?_ | with_reducible (first | refine go1 ?_ | refine sct ?_ | refine scf ?_ | refine sgr ?_) | (with_reducible refine sc_cond (fun h => ?_) (fun h => ?_)) <;> (try (exfalso; first | contradiction | omega | exact h Iff.rfl)) | fail)
  · refine sw_shrP (k := .u64) (8 * (7 - i)) (256 ^ (7 - i)) ⟨by omega, by show _ ≤ 64; omega, by omega, pow256 _⟩ ?_
    repeat' (first | with_reducible (first | refine go1 ?_ | refine sct ?_ | refine scf ?_ | refine sgr ?_) | fail)
    rw [wrap_u8_mod]
    have hx : 0 ≤ u / 256 ^ (7 - i) % 256 ∧ u / 256 ^ (7 - i) % 256 ≤ 255 := by omega
    rcases Nat.lt_or_ge i (8 - bo u) with hlo | hhi
    · -- nothing so far
      have h0 := hn.2 (by omega)
      subst h0
      have hz := dig_zero hu hlo
      have hd := digs_small (u := u) (i := i) (by omega)
      have hd1 := digs_small (u := u) (i := i + 1) (by omega)
      rw [hz, hd]
      simp only [bufV, bufR]
      repeat' (first | with_reducible refine sw_in (by omega) ?_ | with_reducible (first | refine go1 ?_ | refine sct ?_ | refine scf ?_ | refine sgr ?_) | with_reducible refine sw_guard_skip_u ?_ | (with_reducible refine sw_guard_split (fun h => ?_) (fun h => ?_)) <;> (try (exfalso; first | contradiction | omega | exact h Iff.rfl)) | (with_reducible refine sc_cond (fun h => ?_) (fun h => ?_)) <;> (try (exfalso; first | contradiction | omega | exact h Iff.rfl)) | (with_reducible refine sw_pick (fun h => ?_) (fun h => ?_)) <;> (try (exfalso; first | contradiction | omega | exact h Iff.rfl)) | fail)
      refine sq_round ⟨(i + 1, none), by omega, by simp; omega⟩ ?_ ?_ ?_
      · show 8 - (i + 1) < 8 - i
        omega
      · dsimp only [bufV]
        refine says_cons rfl (says_cons rfl (says_cons ?_ says_nil))
        have : (7 : Int) - ((i + 1 : Nat) : Int) = 7 - (i : Int) - 1 := by omega
        rw [this]
        try rfl
      · exact Ent.refl _
    · have hds := digs_succ hhi (by omega)
      rcases o with _ | ⟨b, t⟩
      · -- the first one
        have h0 := hn.1 rfl
        have he : i = 8 - bo u := by omega
        have hd := digs_small (u := u) (i := i) (by omega)
        have htop : u / 256 ^ (7 - i) % 256 ≠ 0 ∨ (7 - (i : Int)) = 0 := by
          rcases Nat.lt_or_ge (bo u) 2 with h | h
          · right; omega
          · left; exact dig_top hu he h
        rw [hd, List.nil_append] at hds
        rw [hd]
        simp only [bufV, bufR]
        generalize u / 256 ^ (7 - i) % 256 = x at *
        repeat' (first | with_reducible refine sw_in (by omega) ?_ | with_reducible (first | refine go1 ?_ | refine sct ?_ | refine scf ?_ | refine sgr ?_) | with_reducible refine sw_guard_skip_u ?_ | (with_reducible refine sw_guard_split (fun h => ?_) (fun h => ?_)) <;> (try (exfalso; first | contradiction | omega | exact h Iff.rfl)) | (with_reducible refine sc_cond (fun h => ?_) (fun h => ?_)) <;> (try (exfalso; first | contradiction | omega | exact h Iff.rfl)) | (with_reducible refine sw_pick (fun h => ?_) (fun h => ?_)) <;> (try (exfalso; first | contradiction | omega | exact h Iff.rfl)) | fail)
        all_goals
          refine sw_buildSlice [.int .u8 x] (by omega) rfl fun b1 => ?_
          refine sw_append_nil (src := [Value.int .u8 x]) src_pts0 ⟨by simp, rfl, by simp, by simp⟩ fun b4 t4 => ?_
          repeat' (first | with_reducible refine sw_in (by omega) ?_ | with_reducible (first | refine go1 ?_ | refine sct ?_ | refine scf ?_ | refine sgr ?_) | (with_reducible refine sc_cond (fun h => ?_) (fun h => ?_)) <;> (try (exfalso; first | contradiction | omega | exact h Iff.rfl)) | fail)
          refine sq_round ⟨(i + 1, some (b4, t4)), by omega, by simp; omega⟩ ?_ ?_ ?_
          · show 8 - (i + 1) < 8 - i
            omega
          · dsimp only [bufV]
            rw [hds]
            refine says_cons rfl (says_cons rfl (says_cons ?_ says_nil))
            have : (7 : Int) - ((i + 1 : Nat) : Int) = 7 - (i : Int) - 1 := by omega
            rw [this]
            try rfl
          · show Ent _ ((b4, pts b4 (.cells ((digs u (i + 1)).map (Value.int .u8) ++ t4).toArray 5 (0, 0))) :: (k, r) :: F)
            rw [hds]
            repeat' (first | with_reducible exact Ent.refl _ | with_reducible refine Ent.take_eq ?_ ?_ | rfl | with_reducible refine Ent.trans (Ent.drop _ _) ?_)
      · have hpos : 0 < (digs u i).length := by
          rcases Nat.lt_or_ge (8 - bo u) i with h | h
          · omega
          · exact absurd (hn.2 h) (by simp)
        simp only [bufV, bufR]
        generalize u / 256 ^ (7 - i) % 256 = x at *
        repeat' (first | with_reducible refine sw_in (by omega) ?_ | with_reducible (first | refine go1 ?_ | refine sct ?_ | refine scf ?_ | refine sgr ?_) | with_reducible refine sw_guard_skip_u ?_ | (with_reducible refine sw_guard_split (fun h => ?_) (fun h => ?_)) <;> (try (exfalso; first | contradiction | omega | exact h Iff.rfl)) | (with_reducible refine sc_cond (fun h => ?_) (fun h => ?_)) <;> (try (exfalso; first | contradiction | omega | exact h Iff.rfl)) | (with_reducible refine sw_pick (fun h => ?_) (fun h => ?_)) <;> (try (exfalso; first | contradiction | omega | exact h Iff.rfl)) | fail)
        all_goals
          refine sw_buildSlice [.int .u8 x] (by omega) rfl fun b1 => ?_
          refine sw_append (src := [Value.int .u8 x]) src_pts0 (by simp [Value.oneCell']) ⟨by omega, by rw [List.length_append, List.length_map], rfl, by simp only [List.length_singleton]; omega, by simp only [List.length_singleton]; omega⟩ fun b4 t4 => ?_
          rw [List.take_left' (by rw [List.length_map])]
          repeat' (first | with_reducible refine sw_in (by omega) ?_ | with_reducible (first | refine go1 ?_ | refine sct ?_ | refine scf ?_ | refine sgr ?_) | (with_reducible refine sc_cond (fun h => ?_) (fun h => ?_)) <;> (try (exfalso; first | contradiction | omega | exact h Iff.rfl)) | fail)
          refine sq_round ⟨(i + 1, some (b4, t4)), by omega, by simp; omega⟩ ?_ ?_ ?_
          · show 8 - (i + 1) < 8 - i
            omega
          · dsimp only [bufV]
            rw [hds, List.length_append]
            refine says_cons rfl (says_cons rfl (says_cons ?_ says_nil))
            have : (7 : Int) - ((i + 1 : Nat) : Int) = 7 - (i : Int) - 1 := by omega
            rw [this]
            try rfl
          · show Ent _ ((b4, pts b4 (.cells ((digs u (i + 1)).map (Value.int .u8) ++ t4).toArray 5 (0, 0))) :: (k, r) :: F)
            rw [hds, List.map_append]
            repeat' (first | with_reducible exact Ent.refl _ | with_reducible refine Ent.take_eq ?_ ?_ | rfl | with_reducible refine Ent.trans (Ent.drop _ _) ?_)
  · have h8 : i = 8 := by omega
    subst h8
    rcases o with _ | ⟨b, t⟩
    · have := hn.1 rfl
      omega
    simp only [bufV, bufR]
    rw [digs_all]
    repeat' (first | with_reducible (first | refine go1 ?_ | refine sct ?_ | refine scf ?_ | refine sgr ?_) | fail)
    refine sq_ret1 Try.results115 ?_
    exact ⟨_, ⟨b, t, rfl, rfl⟩, Ent.refl _⟩
end Go.Gsl

namespace Go.Gsl
set_option linter.unusedVariables false
open Go.Proofs

theorem width_pos {n : Int} (h : 100 < n) : width n = 1 + bo n := by unfold width; rw [if_pos h]
theorem width_neg {n : Int} (h : n < -100) : width n = 1 + bo (-n - 1) := by unfold width; rw [if_neg (by omega), if_pos h]
theorem intB_small {n : Int} (h : -100 ≤ n ∧ n ≤ 100) : intB n = [n + 108] := by
  have h1 : width n = 1 := by unfold width; rw [if_neg (by omega), if_neg (by omega)]
  unfold intB
  rw [if_pos h1]
theorem intB_pos {n : Int} (h : 100 < n) : intB n = (208 + (bo n : Int)) :: beB (bo n) n := by
  have hb := bo_in n
  unfold intB
  rw [width_pos h, if_neg (by omega), if_neg (by omega), show 1 + bo n - 1 = bo n by omega]
  congr 1
  omega
theorem intB_neg {n : Int} (h : n < -100) : intB n = (8 - (bo (-n - 1) : Int)) :: (beB (bo (-n - 1)) (-n - 1)).map (255 - ·) := by
  have hb := bo_in (-n - 1)
  unfold intB
  rw [width_neg h, if_neg (by omega), if_pos (by omega), show 1 + bo (-n - 1) - 1 = bo (-n - 1) by omega]
  congr 1
  omega

set_option maxHeartbeats 1000000 in
theorem q1Int_ok (k : Nat) (r : HProp) (n : Int) (hn : I64 n) : Spec Try.prog 110 [.int .i64 n] [k] [r]
    fun F w Rs' => ∃ b t, w = .slice (some ⟨b, 0, none⟩) (intB n).length ((intB n).length + t.length) ∧ Rs' = (b, pts b (.cells ((intB n).map (Value.int .u8) ++ t).toArray 5 (0, 0))) :: (k, r) :: F := by
  unfold I64 at hn
  refine spec_of Try.func110 rfl Try.ntmps110 rfl ?_
  intro w0 F
  repeat' (first | with_reducible refine sw_in (by omega) ?_ | with_reducible (first | refine go1 ?_ | refine sct ?_ | refine scf ?_ | refine sgr ?_) | with_reducible refine sw_guard_skip_u ?_ | (with_reducible refine sw_guard_split (fun h => ?_) (fun h => ?_)) <;> (try (exfalso; first | contradiction | omega | exact h Iff.rfl)) | (with_reducible refine sc_cond (fun h => ?_) (fun h => ?_)) <;> (try (exfalso; first | contradiction | omega | exact h Iff.rfl)) | (with_reducible refine sw_pick (fun h => ?_) (fun h => ?_)) <;> (try (exfalso; first | contradiction | omega | exact h Iff.rfl)) | fail)
  · refine sw_buildSlice [.int .u8 (n + 108)] (by omega) rfl fun b1 => ?_
    repeat' (first | with_reducible (first | refine go1 ?_ | refine sct ?_ | refine scf ?_ | refine sgr ?_) | fail)
    rw [intB_small (by omega)]
    refine sq_ret1 Try.results110 ?_
    exact ⟨_, ⟨b1, [], rfl, rfl⟩, Ent.refl _⟩
  · refine sw_call (q1Digits_ok k r n (by omega)) ?_
    rintro _ _ ⟨b1, t1, rfl, rfl⟩
    have hb := bo_in n
    have hl := beB_len (bo n) n
    rw [hl]
    repeat' (first | with_reducible refine sw_in (by omega) ?_ | with_reducible (first | refine go1 ?_ | refine sct ?_ | refine scf ?_ | refine sgr ?_) | fail)
    refine sw_buildSlice [.int .u8 (208 + (bo n : Int))] (by omega) rfl fun b2 => ?_
    repeat' (first | with_reducible (first | refine go1 ?_ | refine sct ?_ | refine scf ?_ | refine sgr ?_) | fail)
    refine sw_append (m := 1) (c := 1) (cs := [Value.int .u8 (208 + (bo n : Int))]) (src := (beB (bo n) n).map (Value.int .u8)) (src_pts (b := b1)) (one_ints _ _) ⟨by omega, rfl, by rw [List.length_map, hl], by omega, by omega⟩ fun b3 t3 => ?_
    repeat' (first | with_reducible (first | refine go1 ?_ | refine sct ?_ | refine scf ?_ | refine sgr ?_) | fail)
    rw [intB_pos (by omega)]
    refine sq_ret1 Try.results110 ?_
    refine ⟨_, ⟨b3, t3, ?_, rfl⟩, ?_⟩
    · rw [List.length_cons, hl, Nat.add_comm 1 (bo n)]
    · repeat' (first | with_reducible exact Ent.refl _ | with_reducible refine Ent.take_eq ?_ ?_ | rfl | with_reducible refine Ent.trans (Ent.drop _ _) ?_)
  · rw [show 0 - (n + 1) = -n - 1 by omega]
    refine sw_call (q1Digits_ok k r (-n - 1) (by omega)) ?_
    rintro _ _ ⟨b1, t1, rfl, rfl⟩
    have hb := bo_in (-n - 1)
    have hl := beB_len (bo (-n - 1)) (-n - 1)
    have hdb := beB_byt (bo (-n - 1)) (-n - 1)
    rw [intB_neg (by omega)]
    generalize beB (bo (-n - 1)) (-n - 1) = d at *
    rw [hl]
    generalize bo (-n - 1) = L at *
    repeat' (first | with_reducible refine sw_in (by omega) ?_ | with_reducible (first | refine go1 ?_ | refine sct ?_ | refine scf ?_ | refine sgr ?_) | fail)
    refine sw_buildSlice [.int .u8 (8 - (L : Int))] (by omega) rfl fun b2 => ?_
    repeat' (first | with_reducible (first | refine go1 ?_ | refine sct ?_ | refine scf ?_ | refine sgr ?_) | fail)
    refine sc_loop (α := { x : Nat × Nat × List Value // x.1 ≤ L }) (fun x => [(5, .slice (some ⟨b1, 0, none⟩) L (L + t1.length)), (6, .slice (some ⟨x.1.2.1, 0, none⟩) (x.1.1 + 1) (x.1.1 + 1 + x.1.2.2.length)), (7, .int .i64 (x.1.1 : Int))])
      (fun x => (x.1.2.1, pts x.1.2.1 (.cells (((8 - (L : Int)) :: (d.take x.1.1).map (255 - ·)).map (Value.int .u8) ++ x.1.2.2).toArray 5 (0, 0))) :: (b1, pts b1 (.cells (d.map (Value.int .u8) ++ t1).toArray 5 (0, 0))) :: (k, r) :: F) (fun x => L - x.1.1) ⟨(0, b2, []), Nat.zero_le _⟩ ?_ ?_ ?_
    · repeat' (first | exact says_nil | refine says_cons rfl ?_ | refine says_cons (by simp) ?_)
    · repeat' (first | with_reducible exact Ent.refl _ | with_reducible refine Ent.take_eq ?_ ?_ | rfl | with_reducible refine Ent.trans (Ent.drop _ _) ?_)
    rintro ⟨⟨i, b3, t3⟩, hi⟩ e
    (try simp only at hi)
    simp only [List.cons_append, List.nil_append]
    have hlen : (((8 - (L : Int)) :: (d.take i).map (255 - ·)).map (Value.int .u8)).length = i + 1 := by
      rw [List.length_map, List.length_cons, List.length_map, List.length_take]; omega
    repeat' (first | with_reducible refine sw_in (by omega) ?_ | with_reducible (first | refine go1 ?_ | refine sct ?_ | refine scf ?_ | refine sgr ?_) | (with_reducible refine sc_cond (fun h => ?_) (fun h => ?_)) <;> (try (exfalso; first | contradiction | omega | exact h Iff.rfl)) | fail)
    · have hi2 : i < d.length := by omega
      have hri : d[i]? = some d[i] := List.getElem?_eq_getElem hi2
      have hdi := hdb d[i] (List.getElem_mem hi2)
      have hsn : (d.take (i + 1)).map (255 - ·) = (d.take i).map (255 - ·) ++ [255 - d[i]] := by
        rw [List.take_add_one, hri, Option.toList_some, List.map_append, List.map_singleton]
      refine sw_idx i (by omega) ?_
      refine sw_loadAt (.int .u8 d[i]) (by rw [List.getElem?_append_left (by rw [List.length_map]; exact hi2), List.getElem?_map, hri]; rfl) ?_
      generalize d[i] = x at *
      repeat' (first | with_reducible refine sw_in (by omega) ?_ | with_reducible (first | refine go1 ?_ | refine sct ?_ | refine scf ?_ | refine sgr ?_) | (with_reducible refine sc_cond (fun h => ?_) (fun h => ?_)) <;> (try (exfalso; first | contradiction | omega | exact h Iff.rfl)) | fail)
      refine sw_buildSlice [.int .u8 (255 - x)] (by omega) rfl fun b4 => ?_
      refine sw_append (m := i + 1) (src := [Value.int .u8 (255 - x)]) src_pts0 (by simp [Value.oneCell']) ⟨by omega, by rw [List.length_append, hlen], rfl, by simp only [List.length_singleton]; omega, by simp only [List.length_singleton]; omega⟩ fun b5 t5 => ?_
      rw [List.take_left' hlen]
      repeat' (first | with_reducible refine sw_in (by omega) ?_ | with_reducible (first | refine go1 ?_ | refine sct ?_ | refine scf ?_ | refine sgr ?_) | (with_reducible refine sc_cond (fun h => ?_) (fun h => ?_)) <;> (try (exfalso; first | contradiction | omega | exact h Iff.rfl)) | fail)
      refine sq_round ⟨(i + 1, b5, t5), by omega⟩ ?_ ?_ ?_
      · show L - (i + 1) < L - i
        omega
      · repeat' (first | exact says_nil | refine says_cons rfl ?_ | refine says_cons (by simp) ?_)
      · show Ent _ ((b5, pts b5 (.cells (((8 - (L : Int)) :: (d.take (i + 1)).map (255 - ·)).map (Value.int .u8) ++ t5).toArray 5 (0, 0))) :: (b1, pts b1 (.cells (d.map (Value.int .u8) ++ t1).toArray 5 (0, 0))) :: (k, r) :: F)
        rw [hsn, ← List.cons_append, List.map_append]
        repeat' (first | with_reducible exact Ent.refl _ | with_reducible refine Ent.take_eq ?_ ?_ | rfl | with_reducible refine Ent.trans (Ent.drop _ _) ?_)
    · have hiL : i = d.length := by omega
      subst hiL
      rw [List.take_length] at hlen ⊢
      repeat' (first | with_reducible (first | refine go1 ?_ | refine sct ?_ | refine scf ?_ | refine sgr ?_) | fail)
      refine sq_ret1 Try.results110 ?_
      refine ⟨_, ⟨b3, t3, ?_, rfl⟩, ?_⟩
      · rw [List.length_cons, List.length_map]
      · repeat' (first | with_reducible exact Ent.refl _ | with_reducible refine Ent.take_eq ?_ ?_ | rfl | with_reducible refine Ent.trans (Ent.drop _ _) ?_)

theorem q1Bytes_ok (k : Nat) (r : HProp) (v : Value) (bs : List Int) (hv : RdB r v bs) (hl : bs.length ≤ 70368744177664) : Spec Try.prog 97 [v] [k] [r]
    fun F w Rs' => ∃ b t, w = .slice (some ⟨b, 0, none⟩) (intB bs.length ++ bs).length ((intB bs.length ++ bs).length + t.length) ∧ Rs' = (b, pts b (.cells ((intB bs.length ++ bs).map (Value.int .u8) ++ t).toArray 5 (0, 0))) :: (k, r) :: F := by
  refine spec_of Try.func97 rfl Try.ntmps97 rfl ?_
  intro w0 F
  obtain ⟨a, c, rfl, hsome, hc, hr⟩ := hv.gen
  have hw := width_in bs.length
  have hil := intB_len bs.length
  repeat' (first | with_reducible (first | refine go1 ?_ | refine sct ?_ | refine scf ?_ | refine sgr ?_) | fail)
  refine sw_call (q1Int_ok k r bs.length (by unfold I64; omega)) ?_
  rintro _ _ ⟨b2, t2, rfl, rfl⟩
  repeat' (first | with_reducible (first | refine go1 ?_ | refine sct ?_ | refine scf ?_ | refine sgr ?_) | fail)
  refine sw_append (src := bs.map (Value.int .u8)) (fun w hw => hr.sat (k := k) hw) (one_ints _ _) ⟨by omega, by rw [List.length_append, List.length_map], by rw [List.length_map], by omega, by omega⟩ fun b3 t3 => ?_
  rw [List.take_left' (by rw [List.length_map])]
  repeat' (first | with_reducible (first | refine go1 ?_ | refine sct ?_ | refine scf ?_ | refine sgr ?_) | fail)
  refine sq_ret1 Try.results97 ?_
  refine ⟨_, ⟨b3, t3, ?_, rfl⟩, ?_⟩
  · rw [List.length_append]
  · rw [List.map_append]
    repeat' (first | with_reducible exact Ent.refl _ | with_reducible refine Ent.take_eq ?_ ?_ | rfl | with_reducible refine Ent.trans (Ent.drop _ _) ?_)

theorem q1Tail_ok (s : Int) (hs : 0 ≤ s ∧ s < 4294967296) : Spec Try.prog 98 [.int .u32 s] [] [] fun F w Rs' => ∃ b, w = .slice (some ⟨b, 0, none⟩) 4 4 ∧ Rs' = (b, pts b (.cells ((be4 s).map (Value.int .u8)).toArray 5 (0, 0))) :: F := by
  refine spec_of Try.func98 rfl Try.ntmps98 rfl ?_
  intro w0 F
  repeat' (first | with_reducible (first | refine go1 ?_ | refine sct ?_ | refine scf ?_ | refine sgr ?_) | fail)
  refine sw_shrP (k := .u32) 24 16777216 ⟨rfl, by decide, by omega, rfl⟩ ?_
  repeat' (first | with_reducible (first | refine go1 ?_ | refine sct ?_ | refine scf ?_ | refine sgr ?_) | fail)
  refine sw_shrP (k := .u32) 16 65536 ⟨rfl, by decide, by omega, rfl⟩ ?_
  repeat' (first | with_reducible (first | refine go1 ?_ | refine sct ?_ | refine scf ?_ | refine sgr ?_) | fail)
  refine sw_shrP (k := .u32) 8 256 ⟨rfl, by decide, by omega, rfl⟩ ?_
  repeat' (first | with_reducible (first | refine go1 ?_ | refine sct ?_ | refine scf ?_ | refine sgr ?_) | fail)
  simp only [wrap_u8_mod]
  refine sw_buildSlice ((be4 s).map (Value.int .u8)) (by omega) rfl fun b4 => ?_
  repeat' (first | with_reducible (first | refine go1 ?_ | refine sct ?_ | refine scf ?_ | refine sgr ?_) | fail)
  refine sq_ret1 Try.results98 ?_
  exact ⟨_, ⟨b4, rfl, rfl⟩, Ent.refl _⟩

theorem q1Sum_ok (k : Nat) (r : HProp) (v : Value) (bs : List Int) (hv : RdB r v bs) (hb : Byt bs) (hl : bs.length ≤ 140737488355328) :
    Spec Try.prog 55 [v] [k] [r] fun F w Rs' => w = .int .u32 (adler bs) ∧ Rs' = (k, r) :: F := by
  refine spec_of Try.func55 rfl Try.ntmps55 rfl ?_
  intro w0 F
  obtain ⟨a, c, rfl, hsome, hc, hr⟩ := hv.gen
  repeat' (first | with_reducible (first | refine go1 ?_ | refine sct ?_ | refine scf ?_ | refine sgr ?_) | fail)
  refine sc_loop (α := { j : Nat // j ≤ bs.length }) (fun j => [(0, .slice a bs.length c), (3, .int .u32 (adF (bs.take j.1)).1), (4, .int .u32 (adF (bs.take j.1)).2), (5, .int .i64 (j.1 : Int))])
    (fun _ => (k, r) :: F) (fun j => bs.length - j.1) ⟨0, Nat.zero_le _⟩ ?_ ?_ ?_
  · repeat' (first | exact says_nil | refine says_cons rfl ?_ | refine says_cons (by simp) ?_)
  · exact Ent.refl _
  rintro ⟨j, hj⟩ e
  (try simp only at hj)
  simp only [List.cons_append, List.nil_append]
  have hF := adF_in (bs.take j)
  repeat' (first | with_reducible refine sw_in (by omega) ?_ | with_reducible (first | refine go1 ?_ | refine sct ?_ | refine scf ?_ | refine sgr ?_) | (with_reducible refine sc_cond (fun h => ?_) (fun h => ?_)) <;> (try (exfalso; first | contradiction | omega | exact h Iff.rfl)) | fail)
  · have hj2 : j < bs.length := by omega
    obtain ⟨b2, o, rfl⟩ := hsome (by omega)
    have hrj : bs[j]? = some bs[j] := List.getElem?_eq_getElem hj2
    have hbj := hb bs[j] (List.getElem_mem hj2)
    have hsn : adF (bs.take (j + 1)) = ad (adF (bs.take j)) bs[j] := by rw [List.take_add_one, hrj, Option.toList_some, adF_snoc]
    refine sw_index (by omega) ?_
    refine sw_load_rd k j (.int .u8 bs[j]) hr (by rw [List.getElem?_map, hrj]; rfl) (by simp) ?_
    generalize bs[j] = y at *
    repeat' (first | with_reducible refine sw_rem_nn (by omega) ?_ | with_reducible refine sw_in (by omega) ?_ | with_reducible (first | refine go1 ?_ | refine sct ?_ | refine scf ?_ | refine sgr ?_) | (with_reducible refine sc_cond (fun h => ?_) (fun h => ?_)) <;> (try (exfalso; first | contradiction | omega | exact h Iff.rfl)) | fail)
    refine sq_round ⟨j + 1, by omega⟩ ?_ ?_ ?_
    · show bs.length - (j + 1) < bs.length - j
      omega
    · dsimp only
      rw [hsn]
      unfold ad
      repeat' (first | exact says_nil | refine says_cons rfl ?_ | refine says_cons (by simp) ?_)
    · exact Ent.refl _
  · have hjl : j = bs.length := by omega
    subst hjl
    rw [List.take_length]
    rw [List.take_length] at hF
    repeat' (first | with_reducible refine sw_in (by omega) ?_ | with_reducible (first | refine go1 ?_ | refine sct ?_ | refine scf ?_ | refine sgr ?_) | (with_reducible refine sc_cond (fun h => ?_) (fun h => ?_)) <;> (try (exfalso; first | contradiction | omega | exact h Iff.rfl)) | fail)
    refine sq_ret1 Try.results55 ?_
    refine ⟨_, ⟨?_, rfl⟩, Ent.refl _⟩
    unfold adler
    congr 1
    omega
end Go.Gsl

namespace Go.Gsl
set_option linter.unusedVariables false
open Go.Proofs

theorem ofBE_foldl : ∀ (xs : List Int) (u : Int), xs.foldl (fun u c => u * 256 + c) u = u * 256 ^ xs.length + ofBE xs
  | [], u => by simp [ofBE]
  | x :: xs, u => by
    have h1 := ofBE_foldl xs (u * 256 + x)
    have h2 := ofBE_foldl xs (0 * 256 + x)
    unfold ofBE
    rw [List.foldl_cons, List.foldl_cons, h1, h2, List.length_cons, pow_succ256, Int.add_mul, Int.mul_assoc, Int.mul_comm 256, Int.zero_mul, Int.zero_add]
    omega
theorem ofBE_cons (x : Int) (xs : List Int) : ofBE (x :: xs) = x * 256 ^ xs.length + ofBE xs := by
  have := ofBE_foldl xs (0 * 256 + x)
  unfold ofBE at this ⊢
  rw [List.foldl_cons, this, Int.zero_mul, Int.zero_add]
theorem ofBE_in {xs : List Int} (hb : Byt xs) : 0 ≤ ofBE xs ∧ ofBE xs < 256 ^ xs.length := by
  have h := ofBE_lt xs.length xs rfl hb
  rw [Int.natCast_pow] at h
  exact h
theorem bo_eq {v : Int} {k : Nat} (hv : 0 ≤ v ∧ v ≤ 9223372036854775807) (hk : 1 ≤ k) (h1 : (256 : Int) ^ (k - 1) ≤ v) (h2 : v < 256 ^ k) : bo v = k := by
  have hb := bo_in v
  have h3 := bo_lt hv
  rcases Nat.lt_trichotomy (bo v) k with h | h | h
  · have := pow256_le (a := bo v) (b := k - 1) (by omega)
    omega
  · exact h
  · have h4 := bo_ge (n := v) (by omega)
    have := pow256_le (a := k) (b := bo v - 1) (by omega)
    omega
theorem width_small {n : Int} (h : -100 ≤ n ∧ n ≤ 100) : width n = 1 := by unfold width; rw [if_neg (by omega), if_neg (by omega)]
def sg (neg : Bool) (v : Int) : Int := if neg then -v - 1 else v
theorem width_sg {neg : Bool} {v : Int} (hv : 0 ≤ v) (h : ¬ (-100 ≤ sg neg v ∧ sg neg v ≤ 100)) : width (sg neg v) = 1 + bo v := by
  unfold sg at h ⊢
  cases neg with
  | true =>
    simp only [if_true] at h ⊢
    rw [width_neg (by omega), show -(-v - 1) - 1 = v by omega]
  | false =>
    simp only [Bool.false_eq_true, if_false] at h ⊢
    rw [width_pos (by omega)]

theorem takeK_bad {k : Nat} {g : Int → Int} {neg : Bool} {r : List Int} (hk : k ≤ r.length) (h : 9223372036854775807 < ofBE ((r.take k).map g) ∨ width (sg neg (ofBE ((r.take k).map g))) ≠ 1 + k) : takeK k g neg r = (0, 0, 11) := by
  unfold takeK
  rw [if_neg (by omega)]
  exact if_pos h
theorem takeK_good {k : Nat} {g : Int → Int} {neg : Bool} {r : List Int} {v : Int} (hk : k ≤ r.length) (hv : ofBE ((r.take k).map g) = v) (h1 : v ≤ 9223372036854775807) (h2 : width (sg neg v) = 1 + k) : takeK k g neg r = (sg neg v, (1 + (k : Int), (0 : Int))) := takeK_of hk hv h1 h2
theorem takeK_small {k : Nat} {g : Int → Int} {neg : Bool} {r : List Int} {v : Int} (hk : k ≤ r.length) (hk1 : 1 ≤ k) (hv : ofBE ((r.take k).map g) = v) (h : -100 ≤ sg neg v ∧ sg neg v ≤ 100) : takeK k g neg r = (0, 0, 11) :=
  takeK_bad hk (.inr (by rw [hv, width_small h]; omega))
theorem takeK_zero {k : Nat} {g : Int → Int} {neg : Bool} {x : Int} {r : List Int} (hk : k ≤ (x :: r).length) (hk1 : 1 ≤ k ∧ k ≤ 8) (hb : Byt (((x :: r).take k).map g)) (h : g x = 0) : takeK k g neg (x :: r) = (0, 0, 11) := by
  obtain ⟨k, rfl⟩ : ∃ k', k = k' + 1 := ⟨k - 1, by omega⟩
  have hin := ofBE_in hb
  have hl : ((r.take k).map g).length = k := by rw [List.length_map, List.length_take]; simp only [List.length_cons] at hk; omega
  have he : ofBE (((x :: r).take (k + 1)).map g) = ofBE ((r.take k).map g) := by
    rw [List.take_succ_cons, List.map_cons, ofBE_cons, h]
    omega
  have hb2 : Byt ((r.take k).map g) := fun y hy => hb y (by rw [List.take_succ_cons, List.map_cons]; exact List.mem_cons_of_mem _ hy)
  have hin2 := ofBE_in hb2
  rw [hl] at hin2
  refine takeK_bad hk ?_
  rw [he]
  generalize ofBE ((r.take k).map g) = v at *
  rcases Int.lt_or_le 9223372036854775807 v with hbig | hsm
  · exact .inl hbig
  · refine .inr ?_
    by_cases hs : -100 ≤ sg neg v ∧ sg neg v ≤ 100
    · rw [width_small hs]; omega
    · rw [width_sg hin2.1 hs]
      intro hbo
      have hbo' : bo v = k + 1 := by omega
      rcases Nat.eq_zero_or_pos k with h0 | hp
      · subst h0
        simp at hin2
        have : v = 0 := by omega
        subst this
        cases neg <;> simp [sg] at hs
      · have := bo_ge (n := v) (by omega)
        rw [hbo', Nat.add_sub_cancel] at this
        omega
theorem takeK_big {k : Nat} {g : Int → Int} {neg : Bool} {x : Int} {r : List Int} {v : Int} (hk : k ≤ (x :: r).length) (hk1 : 1 ≤ k ∧ k ≤ 8) (hb : Byt (((x :: r).take k).map g)) (h : g x ≠ 0) (hv : ofBE (((x :: r).take k).map g) = v) (h1 : v ≤ 9223372036854775807) (hs : ¬ (-100 ≤ sg neg v ∧ sg neg v ≤ 100)) :
    takeK k g neg (x :: r) = (sg neg v, (1 + (k : Int), (0 : Int))) := by
  have hin := ofBE_in hb
  have hl : (((x :: r).take k).map g).length = k := by rw [List.length_map, List.length_take]; omega
  rw [hl, hv] at hin
  refine takeK_good hk hv h1 ?_
  rw [width_sg hin.1 hs]
  congr 1
  refine bo_eq ⟨hin.1, h1⟩ hk1.1 ?_ hin.2
  obtain ⟨k, rfl⟩ : ∃ k', k = k' + 1 := ⟨k - 1, by omega⟩
  rw [List.take_succ_cons, List.map_cons] at hb hl hv
  have hx := hb (g x) (by simp)
  have hb2 : Byt ((r.take k).map g) := fun y hy => hb y (List.mem_cons_of_mem _ hy)
  have hin2 := ofBE_in hb2
  have hl2 : ((r.take k).map g).length = k := by simp only [List.length_cons] at hl; omega
  rw [ofBE_cons, hl2] at hv
  rw [hl2] at hin2
  rw [Nat.add_sub_cancel, ← hv]
  have hp : (0 : Int) < 256 ^ k := Int.pow_pos (by omega)
  have : (256 : Int) ^ k ≤ g x * 256 ^ k := by
    have := Int.mul_le_mul_of_nonneg_right (show 1 ≤ g x by omega) (Int.le_of_lt hp)
    omega
  omega
end Go.Gsl

namespace Go.Gsl
set_option linter.unusedVariables false
open Go.Proofs


set_option maxHeartbeats 1000000 in
theorem q1ParseInt_ok (k : Nat) (r : HProp) (v : Value) (bs : List Int) (hv : RdB r v bs) (hb : Byt bs) (hl : bs.length ≤ 140737488355328) :
    Spec Try.prog 99 [v] [k] [r] fun F w Rs' => w = .tuple #[.int .i64 (takeInt bs).1, .int .i64 (takeInt bs).2.1, .int .i64 (takeInt bs).2.2] ∧ Rs' = (k, r) :: F := by
  refine spec_of Try.func99 rfl Try.ntmps99 rfl ?_
  intro w0 F
  cases hv with
  | nil =>
    repeat' (first | with_reducible (first | refine go1 ?_ | refine sct ?_ | refine scf ?_ | refine sgr ?_) | (with_reducible refine sc_cond (fun h => ?_) (fun h => ?_)) <;> (try (exfalso; first | contradiction | omega | exact h Iff.rfl)) | fail)
    refine sq_ret3 Try.results99 ?_
    exact ⟨_, ⟨rfl, rfl⟩, Ent.refl _⟩
  | row b o c bs hc hr =>
    cases bs with
    | nil =>
      repeat' (first | with_reducible (first | refine go1 ?_ | refine sct ?_ | refine scf ?_ | refine sgr ?_) | (with_reducible refine sc_cond (fun h => ?_) (fun h => ?_)) <;> (try (exfalso; first | contradiction | omega | exact h Iff.rfl)) | fail)
      refine sq_ret3 Try.results99 ?_
      exact ⟨_, ⟨rfl, rfl⟩, Ent.refl _⟩
    | cons hd rest =>
      have hbh := hb hd (by simp)
      have hbr : Byt rest := fun x hx => hb x (by simp [hx])
      have hpos : 0 < (hd :: rest).length := by simp
      repeat' (first | with_reducible (first | refine go1 ?_ | refine sct ?_ | refine scf ?_ | refine sgr ?_) | (with_reducible refine sc_cond (fun h => ?_) (fun h => ?_)) <;> (try (exfalso; first | contradiction | omega | exact h Iff.rfl)) | fail)
      refine sw_index (by omega) ?_
      repeat' (first | with_reducible (first | refine go1 ?_ | refine sct ?_ | refine scf ?_ | refine sgr ?_) | fail)
      refine sw_load_rd k 0 (.int .u8 hd) hr rfl (by simp) ?_
      rcases (show 216 < hd ∨ (208 < hd ∧ hd ≤ 216) ∨ hd < 8 ∨ (8 ≤ hd ∧ hd ≤ 208) by omega) with h1 | h1 | h1 | h1
      · repeat' (first | with_reducible refine sw_in (by omega) ?_ | with_reducible (first | refine go1 ?_ | refine sct ?_ | refine scf ?_ | refine sgr ?_) | with_reducible refine sw_guard_skip_u ?_ | (with_reducible refine sw_guard_split (fun h => ?_) (fun h => ?_)) <;> (try (exfalso; first | contradiction | omega | exact h Iff.rfl)) | (with_reducible refine sc_cond (fun h => ?_) (fun h => ?_)) <;> (try (exfalso; first | contradiction | omega | exact h Iff.rfl)) | (with_reducible refine sw_pick (fun h => ?_) (fun h => ?_)) <;> (try (exfalso; first | contradiction | omega | exact h Iff.rfl)) | fail)
        refine sq_ret3 Try.results99 ?_
        refine ⟨_, ⟨?_, rfl⟩, Ent.refl _⟩
        rw [takeInt_cons, if_pos h1]
      · -- hd - 208: how many bytes, (fun a => a): what a byte stands for, false: negative, rw [if_neg (by omega), if_pos (by omega)]: why the head is such
        obtain ⟨K, hK⟩ : ∃ K : Nat, hd - 208 = (K : Int) := ⟨(hd - 208).toNat, by omega⟩
        have hT : takeInt (hd :: rest) = takeK K (fun a => a) false rest := by
          rw [takeInt_cons]
          rw [if_neg (by omega), if_pos (by omega)]
          rw [hK, Int.toNat_natCast]
        rw [hT]
        repeat' (first | with_reducible refine sw_in (by omega) ?_ | with_reducible (first | refine go1 ?_ | refine sct ?_ | refine scf ?_ | refine sgr ?_) | with_reducible refine sw_guard_skip_u ?_ | (with_reducible refine sw_guard_split (fun h => ?_) (fun h => ?_)) <;> (try (exfalso; first | contradiction | omega | exact h Iff.rfl)) | (with_reducible refine sc_cond (fun h => ?_) (fun h => ?_)) <;> (try (exfalso; first | contradiction | omega | exact h Iff.rfl)) | (with_reducible refine sw_pick (fun h => ?_) (fun h => ?_)) <;> (try (exfalso; first | contradiction | omega | exact h Iff.rfl)) | fail)
        · refine sq_ret3 Try.results99 ?_
          refine ⟨_, ⟨?_, rfl⟩, Ent.refl _⟩
          unfold takeK
          rw [if_pos (by simp only [List.length_cons] at h; omega)]
        have hKr : K ≤ rest.length := by
          simp only [List.length_cons] at h
          omega
        clear h
        have hK8 : 1 ≤ K ∧ K ≤ 8 := by omega
        rw [hK]
        refine sc_loop (α := { i : Nat // i ≤ K ∧ (0 < i → ∀ x, rest[0]? = some x → (fun a => a) x ≠ 0) }) (fun i => [(0, .slice (some ⟨b, o, none⟩) (hd :: rest).length c), (5, .int .i64 hd), (6, .int .i64 (K : Int)), (7, .int .u64 (ofBE ((rest.take i.1).map (fun a => a)))), (8, .int .i64 (1 + (i.1 : Int)))])
          (fun _ => (k, r) :: F) (fun i => K - i.1) ⟨0, Nat.zero_le _, fun h => absurd h (by omega)⟩ ?_ ?_ ?_
        · repeat' (first | exact says_nil | refine says_cons rfl ?_ | refine says_cons (by simp) ?_)
        · exact Ent.refl _
        rintro ⟨i, hi, hnz⟩ e
        (try simp only at hi hnz)
        simp only [List.cons_append, List.nil_append]
        have hbK : ∀ j, Byt ((rest.take j).map (fun a => a)) := fun j x hx => by
          obtain ⟨y, hy, rfl⟩ := List.mem_map.1 hx
          have := hbr y (List.mem_of_mem_take hy)
          (try simp only); omega
        have hU := ofBE_lt i ((rest.take i).map (fun a => a)) (by rw [List.length_map, List.length_take]; omega) (hbK i)
        repeat' (first | with_reducible refine sw_in (by omega) ?_ | with_reducible (first | refine go1 ?_ | refine sct ?_ | refine scf ?_ | refine sgr ?_) | (with_reducible refine sc_cond (fun h => ?_) (fun h => ?_)) <;> (try (exfalso; first | contradiction | omega | exact h Iff.rfl)) | fail)
        focus
          have hi2 : i < K := by omega
          have hp := pow_le7 (i := i) (by omega)
          have hi3 : i < rest.length := by omega
          have hri : rest[i]? = some rest[i] := List.getElem?_eq_getElem hi3
          have hbi := hbr rest[i] (List.getElem_mem hi3)
          have hsn : ofBE ((rest.take (i + 1)).map (fun a => a)) = ofBE ((rest.take i).map (fun a => a)) * 256 + (fun a => a) rest[i] := by
            rw [List.take_add_one, hri, Option.toList_some, List.map_append, List.map_singleton, ofBE_snoc]
          refine sw_index (by simp only [List.length_cons]; omega) ?_
          refine sw_load_rd k (1 + i) (.int .u8 rest[i]) hr (by rw [Nat.add_comm, List.map_cons, List.getElem?_cons_succ, List.getElem?_map, hri]; rfl) (by simp; omega) ?_
          have hz0 : i = 0 → (fun a => a) rest[i] = 0 → takeK K (fun a => a) false rest = (0, 0, 11) := fun h0 hz => by
            subst h0
            obtain ⟨x, r', rfl⟩ : ∃ x r', rest = x :: r' := by
              cases rest with
              | nil => simp at hi3
              | cons x r' => exact ⟨x, r', rfl⟩
            exact takeK_zero hKr hK8 (hbK K) hz
          generalize rest[i] = y at *
          (try simp only at hsn hz0)
          repeat' (first | with_reducible refine sw_in (by omega) ?_ | with_reducible (first | refine go1 ?_ | refine sct ?_ | refine scf ?_ | refine sgr ?_) | with_reducible refine sw_guard_skip_u ?_ | (with_reducible refine sw_guard_split (fun h => ?_) (fun h => ?_)) <;> (try (exfalso; first | contradiction | omega | exact h Iff.rfl)) | (with_reducible refine sc_cond (fun h => ?_) (fun h => ?_)) <;> (try (exfalso; first | contradiction | omega | exact h Iff.rfl)) | (with_reducible refine sw_pick (fun h => ?_) (fun h => ?_)) <;> (try (exfalso; first | contradiction | omega | exact h Iff.rfl)) | fail)
          · refine sq_ret3 Try.results99 ?_
            refine ⟨_, ⟨?_, rfl⟩, Ent.refl _⟩
            rw [hz0 (by omega) (by omega)]
          all_goals
            rw [← hsn]
            refine sq_round ⟨i + 1, by omega, fun _ x hx => ?_⟩ ?_ ?_ ?_
            · rcases Nat.eq_zero_or_pos i with h0 | h0
              · subst h0
                rw [hri] at hx
                injection hx with hx
                subst hx
                (try simp only)
                omega
              · exact hnz h0 x hx
            · show K - (i + 1) < K - i
              omega
            · repeat' (first | exact says_nil | refine says_cons rfl ?_ | refine says_cons (by simp) ?_)
            · exact Ent.refl _
        · have hiK : i = K := by omega
          subst hiK
          refine sq_ret3 Try.results99 ?_
          refine ⟨_, ⟨?_, rfl⟩, Ent.refl _⟩
          rw [takeK_bad hKr (.inl (by assumption))]
        have hiK : i = K := by omega
        subst hiK
        obtain ⟨x, r', rfl⟩ : ∃ x r', rest = x :: r' := by
          cases rest with
          | nil => simp at hKr; omega
          | cons x r' => exact ⟨x, r', rfl⟩
        have hx0 := hnz (by omega) x rfl
        have hp := pow_le8 (i := i) (by omega)
        generalize hV : ofBE (((x :: r').take i).map (fun a => a)) = V at *
        have hsm : V ≤ 9223372036854775807 := by omega
        have hgood := fun hs => takeK_big (neg := false) hKr hK8 (hbK i) hx0 hV hsm hs
        have hbad := takeK_small (neg := false) hKr hK8.1 hV
        have hsg : sg false V = V := by unfold sg; first | rfl | (simp; omega)
        rw [hsg] at hgood hbad
        repeat' (first | with_reducible refine sw_in (by omega) ?_ | with_reducible (first | refine go1 ?_ | refine sct ?_ | refine scf ?_ | refine sgr ?_) | with_reducible refine sw_guard_skip_u ?_ | (with_reducible refine sw_guard_split (fun h => ?_) (fun h => ?_)) <;> (try (exfalso; first | contradiction | omega | exact h Iff.rfl)) | (with_reducible refine sc_cond (fun h => ?_) (fun h => ?_)) <;> (try (exfalso; first | contradiction | omega | exact h Iff.rfl)) | (with_reducible refine sw_pick (fun h => ?_) (fun h => ?_)) <;> (try (exfalso; first | contradiction | omega | exact h Iff.rfl)) | fail)
        · refine sq_ret3 Try.results99 ?_
          refine ⟨_, ⟨?_, rfl⟩, Ent.refl _⟩
          rw [hbad (by omega)]
        all_goals
          refine sq_ret3 Try.results99 ?_
          refine ⟨_, ⟨?_, rfl⟩, Ent.refl _⟩
          rw [hgood (by omega)]
      · -- 8 - hd: how many bytes, (fun a => 255 - a): what a byte stands for, true: negative, rw [if_neg (by omega), if_neg (by omega), if_pos (by omega)]: why the head is such
        obtain ⟨K, hK⟩ : ∃ K : Nat, 8 - hd = (K : Int) := ⟨(8 - hd).toNat, by omega⟩
        have hT : takeInt (hd :: rest) = takeK K (fun a => 255 - a) true rest := by
          rw [takeInt_cons]
          rw [if_neg (by omega), if_neg (by omega), if_pos (by omega)]
          rw [hK, Int.toNat_natCast]
        rw [hT]
        repeat' (first | with_reducible refine sw_in (by omega) ?_ | with_reducible (first | refine go1 ?_ | refine sct ?_ | refine scf ?_ | refine sgr ?_) | with_reducible refine sw_guard_skip_u ?_ | (with_reducible refine sw_guard_split (fun h => ?_) (fun h => ?_)) <;> (try (exfalso; first | contradiction | omega | exact h Iff.rfl)) | (with_reducible refine sc_cond (fun h => ?_) (fun h => ?_)) <;> (try (exfalso; first | contradiction | omega | exact h Iff.rfl)) | (with_reducible refine sw_pick (fun h => ?_) (fun h => ?_)) <;> (try (exfalso; first | contradiction | omega | exact h Iff.rfl)) | fail)
        · refine sq_ret3 Try.results99 ?_
          refine ⟨_, ⟨?_, rfl⟩, Ent.refl _⟩
          unfold takeK
          rw [if_pos (by simp only [List.length_cons] at h; omega)]
        have hKr : K ≤ rest.length := by
          simp only [List.length_cons] at h
          omega
        clear h
        have hK8 : 1 ≤ K ∧ K ≤ 8 := by omega
        rw [hK]
        refine sc_loop (α := { i : Nat // i ≤ K ∧ (0 < i → ∀ x, rest[0]? = some x → (fun a => 255 - a) x ≠ 0) }) (fun i => [(0, .slice (some ⟨b, o, none⟩) (hd :: rest).length c), (5, .int .i64 hd), (6, .int .i64 (K : Int)), (7, .int .u64 (ofBE ((rest.take i.1).map (fun a => 255 - a)))), (8, .int .i64 (1 + (i.1 : Int)))])
          (fun _ => (k, r) :: F) (fun i => K - i.1) ⟨0, Nat.zero_le _, fun h => absurd h (by omega)⟩ ?_ ?_ ?_
        · repeat' (first | exact says_nil | refine says_cons rfl ?_ | refine says_cons (by simp) ?_)
        · exact Ent.refl _
        rintro ⟨i, hi, hnz⟩ e
        (try simp only at hi hnz)
        simp only [List.cons_append, List.nil_append]
        have hbK : ∀ j, Byt ((rest.take j).map (fun a => 255 - a)) := fun j x hx => by
          obtain ⟨y, hy, rfl⟩ := List.mem_map.1 hx
          have := hbr y (List.mem_of_mem_take hy)
          (try simp only); omega
        have hU := ofBE_lt i ((rest.take i).map (fun a => 255 - a)) (by rw [List.length_map, List.length_take]; omega) (hbK i)
        repeat' (first | with_reducible refine sw_in (by omega) ?_ | with_reducible (first | refine go1 ?_ | refine sct ?_ | refine scf ?_ | refine sgr ?_) | (with_reducible refine sc_cond (fun h => ?_) (fun h => ?_)) <;> (try (exfalso; first | contradiction | omega | exact h Iff.rfl)) | fail)
        focus
          have hi2 : i < K := by omega
          have hp := pow_le7 (i := i) (by omega)
          have hi3 : i < rest.length := by omega
          have hri : rest[i]? = some rest[i] := List.getElem?_eq_getElem hi3
          have hbi := hbr rest[i] (List.getElem_mem hi3)
          have hsn : ofBE ((rest.take (i + 1)).map (fun a => 255 - a)) = ofBE ((rest.take i).map (fun a => 255 - a)) * 256 + (fun a => 255 - a) rest[i] := by
            rw [List.take_add_one, hri, Option.toList_some, List.map_append, List.map_singleton, ofBE_snoc]
          refine sw_index (by simp only [List.length_cons]; omega) ?_
          refine sw_load_rd k (1 + i) (.int .u8 rest[i]) hr (by rw [Nat.add_comm, List.map_cons, List.getElem?_cons_succ, List.getElem?_map, hri]; rfl) (by simp; omega) ?_
          have hz0 : i = 0 → (fun a => 255 - a) rest[i] = 0 → takeK K (fun a => 255 - a) true rest = (0, 0, 11) := fun h0 hz => by
            subst h0
            obtain ⟨x, r', rfl⟩ : ∃ x r', rest = x :: r' := by
              cases rest with
              | nil => simp at hi3
              | cons x r' => exact ⟨x, r', rfl⟩
            exact takeK_zero hKr hK8 (hbK K) hz
          generalize rest[i] = y at *
          (try simp only at hsn hz0)
          repeat' (first | with_reducible refine sw_in (by omega) ?_ | with_reducible (first | refine go1 ?_ | refine sct ?_ | refine scf ?_ | refine sgr ?_) | with_reducible refine sw_guard_skip_u ?_ | (with_reducible refine sw_guard_split (fun h => ?_) (fun h => ?_)) <;> (try (exfalso; first | contradiction | omega | exact h Iff.rfl)) | (with_reducible refine sc_cond (fun h => ?_) (fun h => ?_)) <;> (try (exfalso; first | contradiction | omega | exact h Iff.rfl)) | (with_reducible refine sw_pick (fun h => ?_) (fun h => ?_)) <;> (try (exfalso; first | contradiction | omega | exact h Iff.rfl)) | fail)
          · refine sq_ret3 Try.results99 ?_
            refine ⟨_, ⟨?_, rfl⟩, Ent.refl _⟩
            rw [hz0 (by omega) (by omega)]
          all_goals
            rw [← hsn]
            refine sq_round ⟨i + 1, by omega, fun _ x hx => ?_⟩ ?_ ?_ ?_
            · rcases Nat.eq_zero_or_pos i with h0 | h0
              · subst h0
                rw [hri] at hx
                injection hx with hx
                subst hx
                (try simp only)
                omega
              · exact hnz h0 x hx
            · show K - (i + 1) < K - i
              omega
            · repeat' (first | exact says_nil | refine says_cons rfl ?_ | refine says_cons (by simp) ?_)
            · exact Ent.refl _
        · have hiK : i = K := by omega
          subst hiK
          refine sq_ret3 Try.results99 ?_
          refine ⟨_, ⟨?_, rfl⟩, Ent.refl _⟩
          rw [takeK_bad hKr (.inl (by assumption))]
        have hiK : i = K := by omega
        subst hiK
        obtain ⟨x, r', rfl⟩ : ∃ x r', rest = x :: r' := by
          cases rest with
          | nil => simp at hKr; omega
          | cons x r' => exact ⟨x, r', rfl⟩
        have hx0 := hnz (by omega) x rfl
        have hp := pow_le8 (i := i) (by omega)
        generalize hV : ofBE (((x :: r').take i).map (fun a => 255 - a)) = V at *
        have hsm : V ≤ 9223372036854775807 := by omega
        have hgood := fun hs => takeK_big (neg := true) hKr hK8 (hbK i) hx0 hV hsm hs
        have hbad := takeK_small (neg := true) hKr hK8.1 hV
        have hsg : sg true V = -1 - V := by unfold sg; first | rfl | (simp; omega)
        rw [hsg] at hgood hbad
        repeat' (first | with_reducible refine sw_in (by omega) ?_ | with_reducible (first | refine go1 ?_ | refine sct ?_ | refine scf ?_ | refine sgr ?_) | with_reducible refine sw_guard_skip_u ?_ | (with_reducible refine sw_guard_split (fun h => ?_) (fun h => ?_)) <;> (try (exfalso; first | contradiction | omega | exact h Iff.rfl)) | (with_reducible refine sc_cond (fun h => ?_) (fun h => ?_)) <;> (try (exfalso; first | contradiction | omega | exact h Iff.rfl)) | (with_reducible refine sw_pick (fun h => ?_) (fun h => ?_)) <;> (try (exfalso; first | contradiction | omega | exact h Iff.rfl)) | fail)
        · refine sq_ret3 Try.results99 ?_
          refine ⟨_, ⟨?_, rfl⟩, Ent.refl _⟩
          rw [hbad (by omega)]
        all_goals
          refine sq_ret3 Try.results99 ?_
          refine ⟨_, ⟨?_, rfl⟩, Ent.refl _⟩
          rw [hgood (by omega)]
      · repeat' (first | with_reducible refine sw_in (by omega) ?_ | with_reducible (first | refine go1 ?_ | refine sct ?_ | refine scf ?_ | refine sgr ?_) | with_reducible refine sw_guard_skip_u ?_ | (with_reducible refine sw_guard_split (fun h => ?_) (fun h => ?_)) <;> (try (exfalso; first | contradiction | omega | exact h Iff.rfl)) | (with_reducible refine sc_cond (fun h => ?_) (fun h => ?_)) <;> (try (exfalso; first | contradiction | omega | exact h Iff.rfl)) | (with_reducible refine sw_pick (fun h => ?_) (fun h => ?_)) <;> (try (exfalso; first | contradiction | omega | exact h Iff.rfl)) | fail)
        refine sq_ret3 Try.results99 ?_
        refine ⟨_, ⟨?_, rfl⟩, Ent.refl _⟩
        rw [takeInt_cons, if_neg (by omega), if_neg (by omega), if_neg (by omega)]
end Go.Gsl

namespace Go.Gsl
set_option linter.unusedVariables false
open Go.Proofs

theorem q1Frame_ok (k : Nat) (r : HProp) (v : Value) (bs : List Int) (hv : RdB r v bs) (hb : Byt bs) (hl : bs.length ≤ 70368744177664) :
    Spec Try.prog 70 [v] [k] [r] fun F w Rs' => (1048576 < bs.length ∧ w = .tuple #[.slice none 0 0, .int .i64 3] ∧ Rs' = (k, r) :: F) ∨
      (bs.length ≤ 1048576 ∧ ∃ b t, w = .tuple #[.slice (some ⟨b, 0, none⟩) (frame bs).length ((frame bs).length + t.length), .int .i64 0] ∧ Rs' = (b, pts b (.cells ((frame bs).map (Value.int .u8) ++ t).toArray 5 (0, 0))) :: (k, r) :: F) := by
  refine spec_of Try.func70 rfl Try.ntmps70 rfl ?_
  intro w0 F
  obtain ⟨a, c, rfl, hsome, hc, hr⟩ := hv.gen
  have hA := adler_in bs
  have hw := width_in bs.length
  have hil := intB_len bs.length
  repeat' (first | with_reducible (first | refine go1 ?_ | refine sct ?_ | refine scf ?_ | refine sgr ?_) | (with_reducible refine sc_cond (fun h => ?_) (fun h => ?_)) <;> (try (exfalso; first | contradiction | omega | exact h Iff.rfl)) | fail)
  · refine sq_ret2 Try.results70 ?_
    exact ⟨_, .inl ⟨by omega, rfl, rfl⟩, Ent.refl _⟩
  · refine sw_call (q1Bytes_ok k r _ bs hv hl) ?_
    rintro _ _ ⟨b1, t1, rfl, rfl⟩
    repeat' (first | with_reducible (first | refine go1 ?_ | refine sct ?_ | refine scf ?_ | refine sgr ?_) | fail)
    refine sw_call (q1Sum_ok k r _ bs hv hb (by omega)) ?_
    rintro _ _ ⟨rfl, rfl⟩
    repeat' (first | with_reducible (first | refine go1 ?_ | refine sct ?_ | refine scf ?_ | refine sgr ?_) | fail)
    refine sw_call (q1Tail_ok (adler bs) hA) ?_
    rintro _ _ ⟨b4, rfl, rfl⟩
    repeat' (first | with_reducible (first | refine go1 ?_ | refine sct ?_ | refine scf ?_ | refine sgr ?_) | fail)
    have hl1 : (intB bs.length ++ bs).length = width bs.length + bs.length := by rw [List.length_append, hil]
    refine sw_append (src := (be4 (adler bs)).map (Value.int .u8)) src_pts0 (one_ints _ _) ⟨by omega, by rw [List.length_append, List.length_map], by rw [List.length_map]; rfl, by omega, by omega⟩ fun b5 t5 => ?_
    rw [List.take_left' (by rw [List.length_map])]
    repeat' (first | with_reducible (first | refine go1 ?_ | refine sct ?_ | refine scf ?_ | refine sgr ?_) | fail)
    refine sq_ret2 Try.results70 ?_
    have hfl : (frame bs).length = (intB bs.length ++ bs).length + 4 := by unfold frame; rw [List.length_append]; rfl
    refine ⟨_, .inr ⟨by omega, b5, t5, ?_, rfl⟩, ?_⟩
    · rw [hfl]
    · unfold frame
      simp only [List.map_append]
      repeat' (first | with_reducible exact Ent.refl _ | with_reducible refine Ent.take_eq ?_ ?_ | rfl | with_reducible refine Ent.trans (Ent.drop _ _) ?_)

theorem be4_of {xs : List Int} (hl : xs.length = 4) (hb : Byt xs) : be4 (ofBE xs) = xs := by
  match xs, hl with
  | [a, b, c, d], _ =>
    have h1 := hb a (by simp)
    have h2 := hb b (by simp)
    have h3 := hb c (by simp)
    have h4 := hb d (by simp)
    simp only [be4, ofBE, List.foldl]
    congr 1
    · omega
    · congr 1
      · omega
      · congr 1
        · omega
        · congr 1
          omega


set_option maxHeartbeats 1000000 in
theorem q1Unframe_ok (k : Nat) (r : HProp) (v : Value) (bs : List Int) (hv : RdB r v bs) (hb : Byt bs) (hl : bs.length ≤ 70368744177664) :
    Spec Try.prog 71 [v] [k] [r] fun F w Rs' => ((unfr bs).1 ≠ 0 ∧ w = .tuple #[.slice none 0 0, .int .i64 0, .int .i64 (unfr bs).1] ∧ Rs' = (k, r) :: F) ∨
      ((unfr bs).1 = 0 ∧ ∃ k2 r2 vo, w = .tuple #[vo, .int .i64 (unfr bs).2.2, .int .i64 0] ∧ RdB r2 vo (unfr bs).2.1 ∧ Rs' = (k2, r2) :: (k, r) :: F) := by
  refine spec_of Try.func71 rfl Try.ntmps71 rfl ?_
  intro w0 F
  obtain ⟨a, c, rfl, hsome, hc, hr⟩ := hv.gen
  have htk := takeInt_ok hb
  repeat' (first | with_reducible (first | refine go1 ?_ | refine sct ?_ | refine scf ?_ | refine sgr ?_) | ((with_reducible refine sw_call (q1ParseInt_ok k r _ bs hv hb (by omega)) ?_); rintro _ _ ⟨rfl, rfl⟩) | fail)
  unfold unfr
  generalize takeInt bs = T at htk ⊢
  rcases T with ⟨n, K, e⟩
  simp only at htk ⊢
  rcases Classical.em (e = 0) with rfl | he
  · obtain ⟨h1, h2, h3, h4, h5⟩ := htk rfl
    clear htk
    rw [if_neg (by omega)]
    obtain ⟨K, rfl⟩ : ∃ K' : Nat, K = K' := ⟨K.toNat, by omega⟩
    rw [Int.toNat_natCast]
    obtain ⟨b, o, rfl⟩ := hsome (by omega)
    unfold unfrK
    repeat' (first | with_reducible refine sw_in (by omega) ?_ | with_reducible (first | refine go1 ?_ | refine sct ?_ | refine scf ?_ | refine sgr ?_) | (with_reducible refine sc_cond (fun h => ?_) (fun h => ?_)) <;> (try (exfalso; first | contradiction | omega | exact h Iff.rfl)) | fail)
    · rw [if_pos h]
      refine sq_ret3 Try.results71 ?_
      exact ⟨_, .inl ⟨by decide, rfl, rfl⟩, Ent.refl _⟩
    · rw [if_neg (by omega), if_pos (by omega)]
      refine sq_ret3 Try.results71 ?_
      exact ⟨_, .inl ⟨by decide, rfl, rfl⟩, Ent.refl _⟩
    · rw [if_neg (by omega), if_neg (by omega), if_pos (by omega)]
      refine sq_ret3 Try.results71 ?_
      exact ⟨_, .inl ⟨by decide, rfl, rfl⟩, Ent.refl _⟩
    · rw [if_neg (by omega), if_neg (by omega), if_neg (by omega)]
      obtain ⟨N, rfl⟩ : ∃ N : Nat, n = N := ⟨n.toNat, by omega⟩
      rw [Int.toNat_natCast]
      have hfit : K + N + 4 ≤ bs.length := by omega
      have hNl : ((bs.drop K).take N).length = N := by rw [List.length_take, List.length_drop]; omega
      refine sw_slice K (K + N) c (o + K) (by omega) ⟨by omega, by omega, rfl, by split <;> omega⟩ ?_
      have hKN : K + N - K = ((bs.drop K).take N).length := by omega
      rw [hKN]
      have hsub := RdB.sub hc hr K N (by omega)
      have hsb := hb.sub K N
      have hA := adler_in ((bs.drop K).take N)
      have hx4 : ((bs.drop (K + N)).take 4).length = 4 := by rw [List.length_take, List.length_drop]; omega
      have hxb := hb.sub (K + N) 4
      have hx := be4_of hx4 hxb
      have hat : ∀ j, j < 4 → ((bs.drop (K + N)).take 4)[j]? = bs[K + N + j]? := fun j hj => by rw [List.getElem?_take, if_pos hj, List.getElem?_drop]
      generalize hout : (bs.drop K).take N = out at *
      have hsum : (∀ j, j < 4 → bs[K + N + j]? = (be4 (adler out))[j]?) ↔ adler out = ofBE ((bs.drop (K + N)).take 4) := by
        constructor
        · intro h
          have : (bs.drop (K + N)).take 4 = be4 (adler out) := by
            apply List.ext_getElem?
            intro j
            rcases Nat.lt_or_ge j 4 with hj | hj
            · rw [hat j hj, h j hj]
            · rw [List.getElem?_eq_none (by omega), List.getElem?_eq_none (by show 4 ≤ j; exact hj)]
          rw [this, ofBE_be4 hA]
        · intro h j hj
          rw [← hat j hj, ← hx, ← h]
      rcases Nat.eq_zero_or_pos N with hN0 | hNp
      · have hnil : out = [] := List.eq_nil_of_length_eq_zero (by omega)
        subst hnil
        refine sw_append_nn (m := ([] : List Int).length) rfl ?_
        -- []: where the bytes are, (RdB.nil (r := r)): that they can be read, .slice none 0 0: their value, (k, r) :: F: what is held besides, refine ⟨_, .inr ⟨rfl, b4, pts b4 (.cells ((be4 (adler ([] : List Int))).map (Value.int .u8)).toArray 5 (0, 0)), .slice none 0 0, rfl, .nil, rfl⟩, ?_⟩; repeat' (first | with_reducible exact Ent.refl _ | with_reducible refine Ent.take_eq ?_ ?_ | rfl | with_reducible refine Ent.trans (Ent.drop _ _) ?_): what holds the answer, its proof
        repeat' (first | with_reducible (first | refine go1 ?_ | refine sct ?_ | refine scf ?_ | refine sgr ?_) | fail)
        refine sw_call (q1Sum_ok k _ _ [] (RdB.nil (r := r)) hsb (by omega)) ?_
        rintro _ _ ⟨rfl, rfl⟩
        repeat' (first | with_reducible (first | refine go1 ?_ | refine sct ?_ | refine scf ?_ | refine sgr ?_) | fail)
        refine sw_call (q1Tail_ok (adler []) hA) ?_
        rintro _ _ ⟨b4, rfl, rfl⟩
        repeat' (first | with_reducible (first | refine go1 ?_ | refine sct ?_ | refine scf ?_ | refine sgr ?_) | fail)
        refine sc_loop (α := { i : Nat // i ≤ 4 ∧ ∀ j, j < i → bs[K + N + j]? = (be4 (adler []))[j]? }) (fun i => [(0, .slice (some ⟨b, o, none⟩) bs.length c), (8, .int .i64 ((K : Int) + (N : Int) + 4)), (9, .slice none 0 0), (10, .slice (some ⟨b4, 0, none⟩) 4 4), (11, .int .i64 (i.1 : Int))])
          (fun _ => (b4, pts b4 (.cells ((be4 (adler [])).map (Value.int .u8)).toArray 5 (0, 0))) :: (k, r) :: F) (fun i => 4 - i.1) ⟨0, Nat.zero_le _, fun j h => by omega⟩ ?_ ?_ ?_
        · repeat' (first | exact says_nil | refine says_cons rfl ?_ | refine says_cons (by simp) ?_)
        · repeat' (first | with_reducible exact Ent.refl _ | with_reducible refine Ent.take_eq ?_ ?_ | rfl | with_reducible refine Ent.trans (Ent.drop _ _) ?_)
        rintro ⟨i, hi, hz⟩ e
        (try simp only at hi hz)
        simp only [List.cons_append, List.nil_append]
        repeat' (first | with_reducible refine sw_in (by omega) ?_ | with_reducible (first | refine go1 ?_ | refine sct ?_ | refine scf ?_ | refine sgr ?_) | (with_reducible refine sc_cond (fun h => ?_) (fun h => ?_)) <;> (try (exfalso; first | contradiction | omega | exact h Iff.rfl)) | fail)
        · have hi2 : K + N + i < bs.length := by omega
          have hri : bs[K + N + i]? = some bs[K + N + i] := List.getElem?_eq_getElem hi2
          have hi4 : i < (be4 (adler [])).length := by show i < 4; omega
          have hsi : (be4 (adler []))[i]? = some (be4 (adler []))[i] := List.getElem?_eq_getElem hi4
          have hrs : Reads (pts b4 (.cells ((be4 (adler [])).map (Value.int .u8)).toArray 5 (0, 0))) (some ⟨b4, 0, none⟩) ((be4 (adler [])).map (Value.int .u8)) := reads_pts fun j v hj => by rw [Nat.zero_add]; exact hj
          have hm1 : (bs.map (Value.int .u8))[K + N + i]? = some (.int .u8 bs[K + N + i]) := by rw [List.getElem?_map, hri]; rfl
          have hm2 : ((be4 (adler [])).map (Value.int .u8))[i]? = some (.int .u8 (be4 (adler []))[i]) := by rw [List.getElem?_map, hsi]; rfl
          generalize bs[K + N + i] = x at *
          generalize (be4 (adler []))[i] = y at *
          refine sc_lin ([(b4, pts b4 (.cells ((be4 (adler [])).map (Value.int .u8)).toArray 5 (0, 0))), (k, r)]) (llp 0 (llp 1 (llp 2 (llp 3 (llp 4 (llp 5 (llp 6 (llp 7 (llp 8 (llp 9 (llp 10 (llp 11 ll0)))))))))))) (by kernel_rfl) rfl (by kernel_rfl) ?_
          all_goals (iterate 2 refine go1l ?_)
          all_goals (first | refine sl_in (by omega) ?_ | refine go1l ?_)
          all_goals refine go1l ?_
          all_goals (first | refine sl_in (by omega) ?_ | refine go1l ?_)
          all_goals refine sl_take (h := runop_index (K + N + i) (by omega)) ?_
          all_goals refine sl_take (h := runop_load_rd k (K + N + i) (.int .u8 x) hr hm1 rfl) ?_
          all_goals (iterate 2 refine go1l ?_)
          all_goals refine sl_take (h := runop_idx i (by omega)) ?_
          all_goals refine sl_take (h := runop_load_rd b4 i (.int .u8 y) hrs hm2 (by omega)) ?_
          all_goals refine go1l ?_
          all_goals refine sl_done ?_
          repeat' (first | with_reducible refine sw_in (by omega) ?_ | with_reducible (first | refine go1 ?_ | refine sct ?_ | refine scf ?_ | refine sgr ?_) | (with_reducible refine sc_cond (fun h => ?_) (fun h => ?_)) <;> (try (exfalso; first | contradiction | omega | exact h Iff.rfl)) | fail)
          · have hne : adler [] ≠ ofBE ((bs.drop (K + N)).take 4) := fun h9 => by
              have := hsum.2 h9 i (by omega)
              rw [hri, hsi] at this
              injection this with this
              omega
            rw [if_pos hne]
            refine sq_ret3 Try.results71 ?_
            refine ⟨_, .inl ⟨by decide, rfl, rfl⟩, ?_⟩
            repeat' (first | with_reducible exact Ent.refl _ | with_reducible refine Ent.take_eq ?_ ?_ | rfl | with_reducible refine Ent.trans (Ent.drop _ _) ?_)
          · have hxy : x = y := by omega
            subst hxy
            refine sq_round ⟨i + 1, by omega, fun j hj => ?_⟩ ?_ ?_ ?_
            · rcases Nat.lt_succ_iff_lt_or_eq.1 hj with h9 | rfl
              · exact hz j h9
              · rw [hri, hsi]
            · show 4 - (i + 1) < 4 - i
              omega
            · repeat' (first | exact says_nil | refine says_cons rfl ?_ | refine says_cons (by simp) ?_)
            · repeat' (first | with_reducible exact Ent.refl _ | with_reducible refine Ent.take_eq ?_ ?_ | rfl | with_reducible refine Ent.trans (Ent.drop _ _) ?_)
        · have hi4 : i = 4 := by omega
          subst hi4
          have heq := hsum.1 hz
          rw [if_neg (by simpa using heq)]
          repeat' (first | with_reducible (first | refine go1 ?_ | refine sct ?_ | refine scf ?_ | refine sgr ?_) | fail)
          refine sq_ret3 Try.results71 ?_
          refine ⟨_, .inr ⟨rfl, b4, pts b4 (.cells ((be4 (adler ([] : List Int))).map (Value.int .u8)).toArray 5 (0, 0)), .slice none 0 0, rfl, .nil, rfl⟩, ?_⟩; repeat' (first | with_reducible exact Ent.refl _ | with_reducible refine Ent.take_eq ?_ ?_ | rfl | with_reducible refine Ent.trans (Ent.drop _ _) ?_)
      · obtain ⟨a2, c2, ha2, hs2, hc2, hr2⟩ := hsub.gen
        cases ha2
        refine sw_append_nil (src := out.map (Value.int .u8)) (fun w hw => hr2.sat (k := k) hw) ⟨by omega, by rw [List.length_map], by omega, by omega⟩ fun b3 t3 => ?_
        -- out: where the bytes are, (RdB.own (b := b3) (r := t3)): that they can be read, .slice (some ⟨b3, 0, none⟩) out.length (out.length + t3.length): their value, (b3, pts b3 (.cells (out.map (Value.int .u8) ++ t3).toArray 5 (0, 0))) :: (k, r) :: F: what is held besides, refine ⟨_, .inr ⟨rfl, b3, pts b3 (.cells (out.map (Value.int .u8) ++ t3).toArray 5 (0, 0)), _, rfl, RdB.own, rfl⟩, ?_⟩; repeat' (first | with_reducible exact Ent.refl _ | with_reducible refine Ent.take_eq ?_ ?_ | rfl | with_reducible refine Ent.trans (Ent.drop _ _) ?_): what holds the answer, its proof
        repeat' (first | with_reducible (first | refine go1 ?_ | refine sct ?_ | refine scf ?_ | refine sgr ?_) | fail)
        refine sw_call (q1Sum_ok b3 _ _ out (RdB.own (b := b3) (r := t3)) hsb (by omega)) ?_
        rintro _ _ ⟨rfl, rfl⟩
        repeat' (first | with_reducible (first | refine go1 ?_ | refine sct ?_ | refine scf ?_ | refine sgr ?_) | fail)
        refine sw_call (q1Tail_ok (adler out) hA) ?_
        rintro _ _ ⟨b4, rfl, rfl⟩
        repeat' (first | with_reducible (first | refine go1 ?_ | refine sct ?_ | refine scf ?_ | refine sgr ?_) | fail)
        refine sc_loop (α := { i : Nat // i ≤ 4 ∧ ∀ j, j < i → bs[K + N + j]? = (be4 (adler out))[j]? }) (fun i => [(0, .slice (some ⟨b, o, none⟩) bs.length c), (8, .int .i64 ((K : Int) + (N : Int) + 4)), (9, .slice (some ⟨b3, 0, none⟩) out.length (out.length + t3.length)), (10, .slice (some ⟨b4, 0, none⟩) 4 4), (11, .int .i64 (i.1 : Int))])
          (fun _ => (b4, pts b4 (.cells ((be4 (adler out)).map (Value.int .u8)).toArray 5 (0, 0))) :: (b3, pts b3 (.cells (out.map (Value.int .u8) ++ t3).toArray 5 (0, 0))) :: (k, r) :: F) (fun i => 4 - i.1) ⟨0, Nat.zero_le _, fun j h => by omega⟩ ?_ ?_ ?_
        · repeat' (first | exact says_nil | refine says_cons rfl ?_ | refine says_cons (by simp) ?_)
        · repeat' (first | with_reducible exact Ent.refl _ | with_reducible refine Ent.take_eq ?_ ?_ | rfl | with_reducible refine Ent.trans (Ent.drop _ _) ?_)
        rintro ⟨i, hi, hz⟩ e
        (try simp only at hi hz)
        simp only [List.cons_append, List.nil_append]
        repeat' (first | with_reducible refine sw_in (by omega) ?_ | with_reducible (first | refine go1 ?_ | refine sct ?_ | refine scf ?_ | refine sgr ?_) | (with_reducible refine sc_cond (fun h => ?_) (fun h => ?_)) <;> (try (exfalso; first | contradiction | omega | exact h Iff.rfl)) | fail)
        · have hi2 : K + N + i < bs.length := by omega
          have hri : bs[K + N + i]? = some bs[K + N + i] := List.getElem?_eq_getElem hi2
          have hi4 : i < (be4 (adler out)).length := by show i < 4; omega
          have hsi : (be4 (adler out))[i]? = some (be4 (adler out))[i] := List.getElem?_eq_getElem hi4
          have hrs : Reads (pts b4 (.cells ((be4 (adler out)).map (Value.int .u8)).toArray 5 (0, 0))) (some ⟨b4, 0, none⟩) ((be4 (adler out)).map (Value.int .u8)) := reads_pts fun j v hj => by rw [Nat.zero_add]; exact hj
          have hm1 : (bs.map (Value.int .u8))[K + N + i]? = some (.int .u8 bs[K + N + i]) := by rw [List.getElem?_map, hri]; rfl
          have hm2 : ((be4 (adler out)).map (Value.int .u8))[i]? = some (.int .u8 (be4 (adler out))[i]) := by rw [List.getElem?_map, hsi]; rfl
          generalize bs[K + N + i] = x at *
          generalize (be4 (adler out))[i] = y at *
          refine sc_lin ([(b4, pts b4 (.cells ((be4 (adler out)).map (Value.int .u8)).toArray 5 (0, 0))), (k, r)]) (llp 0 (llp 1 (llp 2 (llp 3 (llp 4 (llp 5 (llp 6 (llp 7 (llp 8 (llp 9 (llp 10 (llp 11 ll0)))))))))))) (by kernel_rfl) rfl (by kernel_rfl) ?_
          all_goals (iterate 2 refine go1l ?_)
          all_goals (first | refine sl_in (by omega) ?_ | refine go1l ?_)
          all_goals refine go1l ?_
          all_goals (first | refine sl_in (by omega) ?_ | refine go1l ?_)
          all_goals refine sl_take (h := runop_index (K + N + i) (by omega)) ?_
          all_goals refine sl_take (h := runop_load_rd k (K + N + i) (.int .u8 x) hr hm1 rfl) ?_
          all_goals (iterate 2 refine go1l ?_)
          all_goals refine sl_take (h := runop_idx i (by omega)) ?_
          all_goals refine sl_take (h := runop_load_rd b4 i (.int .u8 y) hrs hm2 (by omega)) ?_
          all_goals refine go1l ?_
          all_goals refine sl_done ?_
          repeat' (first | with_reducible refine sw_in (by omega) ?_ | with_reducible (first | refine go1 ?_ | refine sct ?_ | refine scf ?_ | refine sgr ?_) | (with_reducible refine sc_cond (fun h => ?_) (fun h => ?_)) <;> (try (exfalso; first | contradiction | omega | exact h Iff.rfl)) | fail)
          · have hne : adler out ≠ ofBE ((bs.drop (K + N)).take 4) := fun h9 => by
              have := hsum.2 h9 i (by omega)
              rw [hri, hsi] at this
              injection this with this
              omega
            rw [if_pos hne]
            refine sq_ret3 Try.results71 ?_
            refine ⟨_, .inl ⟨by decide, rfl, rfl⟩, ?_⟩
            repeat' (first | with_reducible exact Ent.refl _ | with_reducible refine Ent.take_eq ?_ ?_ | rfl | with_reducible refine Ent.trans (Ent.drop _ _) ?_)
          · have hxy : x = y := by omega
            subst hxy
            refine sq_round ⟨i + 1, by omega, fun j hj => ?_⟩ ?_ ?_ ?_
            · rcases Nat.lt_succ_iff_lt_or_eq.1 hj with h9 | rfl
              · exact hz j h9
              · rw [hri, hsi]
            · show 4 - (i + 1) < 4 - i
              omega
            · repeat' (first | exact says_nil | refine says_cons rfl ?_ | refine says_cons (by simp) ?_)
            · repeat' (first | with_reducible exact Ent.refl _ | with_reducible refine Ent.take_eq ?_ ?_ | rfl | with_reducible refine Ent.trans (Ent.drop _ _) ?_)
        · have hi4 : i = 4 := by omega
          subst hi4
          have heq := hsum.1 hz
          rw [if_neg (by simpa using heq)]
          repeat' (first | with_reducible (first | refine go1 ?_ | refine sct ?_ | refine scf ?_ | refine sgr ?_) | fail)
          refine sq_ret3 Try.results71 ?_
          refine ⟨_, .inr ⟨rfl, b3, pts b3 (.cells (out.map (Value.int .u8) ++ t3).toArray 5 (0, 0)), _, rfl, RdB.own, rfl⟩, ?_⟩; repeat' (first | with_reducible exact Ent.refl _ | with_reducible refine Ent.take_eq ?_ ?_ | rfl | with_reducible refine Ent.trans (Ent.drop _ _) ?_)
  · rw [if_pos he]
    repeat' (first | with_reducible (first | refine go1 ?_ | refine sct ?_ | refine scf ?_ | refine sgr ?_) | (with_reducible refine sc_cond (fun h => ?_) (fun h => ?_)) <;> (try (exfalso; first | contradiction | omega | exact h Iff.rfl)) | fail)
    refine sq_ret3 Try.results71 ?_
    exact ⟨_, .inl ⟨he, rfl, rfl⟩, Ent.refl _⟩
end Go.Gsl
