/- The document's codec: an int parsed. -/
import Derived.Test.YtbmdaiopnnmamaaQcd2Q
namespace Go.Gsl
set_option linter.unusedVariables false
open Go.Proofs

theorem ofBE_foldl : ∀ (xs : List Int) (u : Int), xs.foldl (fun u c => u * 256 + c) u = u * 256 ^ xs.length + ofBE xs
  | [], u => by simp [ofBE]
  | x :: xs, u => by
    have h1 := ofBE_foldl xs (u * 256 + x)
    have h2 := ofBE_foldl xs (0 * 256 + x)
    unfold ofBE
    rw [List.foldl_cons, List.foldl_cons, h1, h2, List.length_cons, pow_succ256, Int.add_mul, Int.mul_assoc, Int.mul_comm 256, Int.zero_mul, Int.zero_add]
    omega
theorem ofBE_cons (x : Int) (xs : List Int) : ofBE (x :: xs) = x * 256 ^ xs.length + ofBE xs := by
  have := ofBE_foldl xs (0 * 256 + x)
  unfold ofBE at this ⊢
  rw [List.foldl_cons, this, Int.zero_mul, Int.zero_add]
theorem ofBE_in {xs : List Int} (hb : Byt xs) : 0 ≤ ofBE xs ∧ ofBE xs < 256 ^ xs.length := by
  have h := ofBE_lt xs.length xs rfl hb
  rw [Int.natCast_pow] at h
  exact h
theorem bo_eq {v : Int} {k : Nat} (hv : 0 ≤ v ∧ v ≤ 9223372036854775807) (hk : 1 ≤ k) (h1 : (256 : Int) ^ (k - 1) ≤ v) (h2 : v < 256 ^ k) : bo v = k := by
  have hb := bo_in v
  have h3 := bo_lt hv
  rcases Nat.lt_trichotomy (bo v) k with h | h | h
  · have := pow256_le (a := bo v) (b := k - 1) (by omega)
    omega
  · exact h
  · have h4 := bo_ge (n := v) (by omega)
    have := pow256_le (a := k) (b := bo v - 1) (by omega)
    omega
theorem width_small {n : Int} (h : -100 ≤ n ∧ n ≤ 100) : width n = 1 := by unfold width; rw [if_neg (by omega), if_neg (by omega)]
def sg (neg : Bool) (v : Int) : Int := if neg then -v - 1 else v
theorem width_sg {neg : Bool} {v : Int} (hv : 0 ≤ v) (h : ¬ (-100 ≤ sg neg v ∧ sg neg v ≤ 100)) : width (sg neg v) = 1 + bo v := by
  unfold sg at h ⊢
  cases neg with
  | true =>
    simp only [if_true] at h ⊢
    rw [width_neg (by omega), show -(-v - 1) - 1 = v by omega]
  | false =>
    simp only [Bool.false_eq_true, if_false] at h ⊢
    rw [width_pos (by omega)]

theorem takeK_bad {k : Nat} {g : Int → Int} {neg : Bool} {r : List Int} (hk : k ≤ r.length) (h : 9223372036854775807 < ofBE ((r.take k).map g) ∨ width (sg neg (ofBE ((r.take k).map g))) ≠ 1 + k) : takeK k g neg r = (0, 0, 11) := by
  unfold takeK
  rw [if_neg (by omega)]
  exact if_pos h
theorem takeK_good {k : Nat} {g : Int → Int} {neg : Bool} {r : List Int} {v : Int} (hk : k ≤ r.length) (hv : ofBE ((r.take k).map g) = v) (h1 : v ≤ 9223372036854775807) (h2 : width (sg neg v) = 1 + k) : takeK k g neg r = (sg neg v, (1 + (k : Int), (0 : Int))) := takeK_of hk hv h1 h2
theorem takeK_small {k : Nat} {g : Int → Int} {neg : Bool} {r : List Int} {v : Int} (hk : k ≤ r.length) (hk1 : 1 ≤ k) (hv : ofBE ((r.take k).map g) = v) (h : -100 ≤ sg neg v ∧ sg neg v ≤ 100) : takeK k g neg r = (0, 0, 11) :=
  takeK_bad hk (.inr (by rw [hv, width_small h]; omega))
theorem takeK_zero {k : Nat} {g : Int → Int} {neg : Bool} {x : Int} {r : List Int} (hk : k ≤ (x :: r).length) (hk1 : 1 ≤ k ∧ k ≤ 8) (hb : Byt (((x :: r).take k).map g)) (h : g x = 0) : takeK k g neg (x :: r) = (0, 0, 11) := by
  obtain ⟨k, rfl⟩ : ∃ k', k = k' + 1 := ⟨k - 1, by omega⟩
  have hin := ofBE_in hb
  have hl : ((r.take k).map g).length = k := by rw [List.length_map, List.length_take]; simp only [List.length_cons] at hk; omega
  have he : ofBE (((x :: r).take (k + 1)).map g) = ofBE ((r.take k).map g) := by
    rw [List.take_succ_cons, List.map_cons, ofBE_cons, h]
    omega
  have hb2 : Byt ((r.take k).map g) := fun y hy => hb y (by rw [List.take_succ_cons, List.map_cons]; exact List.mem_cons_of_mem _ hy)
  have hin2 := ofBE_in hb2
  rw [hl] at hin2
  refine takeK_bad hk ?_
  rw [he]
  generalize ofBE ((r.take k).map g) = v at *
  rcases Int.lt_or_le 9223372036854775807 v with hbig | hsm
  · exact .inl hbig
  · refine .inr ?_
    by_cases hs : -100 ≤ sg neg v ∧ sg neg v ≤ 100
    · rw [width_small hs]; omega
    · rw [width_sg hin2.1 hs]
      intro hbo
      have hbo' : bo v = k + 1 := by omega
      rcases Nat.eq_zero_or_pos k with h0 | hp
      · subst h0
        simp at hin2
        have : v = 0 := by omega
        subst this
        cases neg <;> simp [sg] at hs
      · have := bo_ge (n := v) (by omega)
        rw [hbo', Nat.add_sub_cancel] at this
        omega
theorem takeK_big {k : Nat} {g : Int → Int} {neg : Bool} {x : Int} {r : List Int} {v : Int} (hk : k ≤ (x :: r).length) (hk1 : 1 ≤ k ∧ k ≤ 8) (hb : Byt (((x :: r).take k).map g)) (h : g x ≠ 0) (hv : ofBE (((x :: r).take k).map g) = v) (h1 : v ≤ 9223372036854775807) (hs : ¬ (-100 ≤ sg neg v ∧ sg neg v ≤ 100)) :
    takeK k g neg (x :: r) = (sg neg v, (1 + (k : Int), (0 : Int))) := by
  have hin := ofBE_in hb
  have hl : (((x :: r).take k).map g).length = k := by rw [List.length_map, List.length_take]; omega
  rw [hl, hv] at hin
  refine takeK_good hk hv h1 ?_
  rw [width_sg hin.1 hs]
  congr 1
  refine bo_eq ⟨hin.1, h1⟩ hk1.1 ?_ hin.2
  obtain ⟨k, rfl⟩ : ∃ k', k = k' + 1 := ⟨k - 1, by omega⟩
  rw [List.take_succ_cons, List.map_cons] at hb hl hv
  have hx := hb (g x) (by simp)
  have hb2 : Byt ((r.take k).map g) := fun y hy => hb y (List.mem_cons_of_mem _ hy)
  have hin2 := ofBE_in hb2
  have hl2 : ((r.take k).map g).length = k := by simp only [List.length_cons] at hl; omega
  rw [ofBE_cons, hl2] at hv
  rw [hl2] at hin2
  rw [Nat.add_sub_cancel, ← hv]
  have hp : (0 : Int) < 256 ^ k := Int.pow_pos (by omega)
  have : (256 : Int) ^ k ≤ g x * 256 ^ k := by
    have := Int.mul_le_mul_of_nonneg_right (show 1 ≤ g x by omega) (Int.le_of_lt hp)
    omega
  omega
end Go.Gsl
