/- A master's sector with one byte changed. -/
import Derived.Test.YtbmdaiopnnmamaaBackLQ
namespace Go.Gsl
set_option linter.unusedVariables false
open Go.Proofs

theorem ad_sum : ∀ (bs : List Int) (p : Int × Int), (bs.foldl ad p).1 % 65521 = (p.1 + bs.sum) % 65521
  | [], p => by simp
  | c :: bs, p => by
    rw [List.foldl_cons, ad_sum bs (ad p c), List.sum_cons]
    show ((p.1 + c) % 65521 + bs.sum) % 65521 = _
    omega
theorem sum_set : ∀ (l : List Int) (j : Nat) (y : Int) (h : j < l.length), (l.set j y).sum = l.sum - l[j] + y
  | a :: l, 0, y, _ => by simp; omega
  | a :: l, j + 1, y, h => by
    have := sum_set l j y (by simpa using h)
    simp only [List.set_cons_succ, List.sum_cons, this, List.getElem_cons_succ]
    omega
theorem adler_set {bs : List Int} (hb : Byt bs) {j : Nat} {y : Int} (hy : 0 ≤ y ∧ y ≤ 255) (h : j < bs.length) (hne : bs[j] ≠ y) : adler (bs.set j y) ≠ adler bs := by
  intro he
  have h1 := adF_in (bs.set j y)
  have h2 := adF_in bs
  have h3 : (adF (bs.set j y)).1 = (adF bs).1 := by
    unfold adler at he
    omega
  have h4 := ad_sum (bs.set j y) (1, 0)
  have h5 := ad_sum bs (1, 0)
  rw [show (bs.set j y).foldl ad (1, 0) = adF (bs.set j y) from rfl, sum_set bs j y h] at h4
  rw [show bs.foldl ad (1, 0) = adF bs from rfl] at h5
  have h6 := hb bs[j] (List.getElem_mem h)
  simp only at h4 h5
  generalize bs[j] = x at *
  generalize bs.sum = S at *
  omega
theorem be4_set {s : Int} (hs : 0 ≤ s ∧ s < 4294967296) {j : Nat} (hj : j < 4) {y : Int} (hy : 0 ≤ y ∧ y ≤ 255) (hne : (be4 s)[j]? ≠ some y) : ofBE ((be4 s).set j y) ≠ s := by
  rcases (show j = 0 ∨ j = 1 ∨ j = 2 ∨ j = 3 by omega) with rfl | rfl | rfl | rfl
  all_goals
    simp [be4] at hne
    simp only [be4, ofBE, List.set_cons_zero, List.set_cons_succ, List.foldl]
    omega

theorem parse_flip {m : Ms} (hm : m.In) (hc : m.chk = 0) {i : Nat} {y : Int} (hi : 2 ≤ i) (hi2 : i < 512) (hy : 0 ≤ y ∧ y ≤ 255) (hne : m.sec[i]? ≠ some y) : parseM (m.sec.set i y) = (Ms.zero, 200) := by
  have hbl := m.b_len
  have had := adler_in m.b
  rw [m.sec_eq] at hne ⊢
  obtain ⟨i, rfl⟩ : ∃ i', i = i' + 1 := ⟨i - 1, by omega⟩
  rw [List.getElem?_cons_succ] at hne
  rw [List.set_cons_succ, List.set_append]
  have h4 : (be4 (adler m.b)).length = 4 := rfl
  by_cases h1 : i < m.b.length
  · rw [if_pos h1, parse_of (by rw [List.length_set]) (by rw [List.length_set]; omega) h4 (by rw [List.length_replicate, List.length_set]), ofBE_be4 had, if_pos]
    rw [List.getElem?_append_left h1, List.getElem?_eq_getElem h1] at hne
    exact adler_set m.b_byt hy h1 (by simpa using hne)
  · rw [if_neg h1, List.set_append, h4]
    rw [List.getElem?_append_right (by omega)] at hne
    by_cases h2 : i - m.b.length < 4
    · rw [if_pos h2, parse_of rfl (by omega) (by rw [List.length_set]; exact h4) (by rw [List.length_replicate]), if_pos]
      rw [List.getElem?_append_left (by rw [h4]; exact h2)] at hne
      exact fun h => be4_set had h2 hy hne h.symm
    · rw [if_neg h2, parse_of rfl (by omega) h4 (by rw [List.length_set, List.length_replicate]), ofBE_be4 had, if_neg (by simp), take_ms hm hc, if_neg (by simp), if_neg]
      rw [List.getElem?_append_right (by rw [h4]; omega), h4, List.getElem?_replicate, if_pos (by omega)] at hne
      intro h
      have := h y (List.mem_of_getElem? (i := i - m.b.length - 4) (by rw [List.getElem?_set, if_pos rfl, if_pos (by rw [List.length_replicate]; omega)]))
      exact hne (by rw [this])
theorem sec_at {m : Ms} {i : Nat} (h : i < 512) : ∃ x, m.sec[i]? = some x ∧ 0 ≤ x ∧ x ≤ 255 := by
  have hl := m.sec_len
  exact ⟨m.sec[i], List.getElem?_eq_getElem (by omega), m.sec_byt _ (List.getElem_mem _)⟩
theorem flip_u8 {x j : Int} (hx : 0 ≤ x ∧ x ≤ 255) (hj : 0 ≤ j ∧ j < 8) : (0 ≤ ixor .u8 x (IntKind.u8.wrap (1 * 2 ^ min j.toNat IntKind.u8.bits)) ∧ ixor .u8 x (IntKind.u8.wrap (1 * 2 ^ min j.toNat IntKind.u8.bits)) ≤ 255) ∧ ixor .u8 x (IntKind.u8.wrap (1 * 2 ^ min j.toNat IntKind.u8.bits)) ≠ x := by
  have key : ∀ m : Fin 256, ∀ k : Fin 8, (0 ≤ ixor .u8 (m.val : Int) (IntKind.u8.wrap (1 * 2 ^ min k.val IntKind.u8.bits)) ∧ ixor .u8 (m.val : Int) (IntKind.u8.wrap (1 * 2 ^ min k.val IntKind.u8.bits)) ≤ 255) ∧ ixor .u8 (m.val : Int) (IntKind.u8.wrap (1 * 2 ^ min k.val IntKind.u8.bits)) ≠ (m.val : Int) := by decide +kernel
  have := key ⟨x.toNat, by omega⟩ ⟨j.toNat, by omega⟩
  simp only at this
  rwa [Int.toNat_of_nonneg hx.1] at this
end Go.Gsl
