/- Masters and their bytes, forth and back. -/
import Derived.Test.YtbmdaiopnnmamaaGM
namespace Go.Gsl
set_option linter.unusedVariables false
open Go.Proofs

theorem pow_succ256 (k : Nat) : (256 : Int) ^ (k + 1) = 256 ^ k * 256 := Int.pow_succ 256 k
theorem beB_succ (k : Nat) (v : Int) : beB (k + 1) v = beB k (v / 256) ++ [v % 256] := by
  unfold beB
  rw [List.range_succ, List.map_append]
  congr 1
  · apply List.map_congr_left
    intro i hi
    have hi := List.mem_range.1 hi
    rw [show k + 1 - 1 - i = (k - 1 - i) + 1 by omega, pow_succ256, Int.mul_comm, Int.ediv_ediv_of_nonneg (by omega)]
  · simp
theorem ofBE_beB : ∀ (k : Nat) (v : Int), 0 ≤ v → v < 256 ^ k → ofBE (beB k v) = v
  | 0, v, h0, h1 => by
    simp at h1
    rw [show v = 0 by omega]
    rfl
  | k + 1, v, h0, h1 => by
    rw [beB_succ, ofBE_snoc, ofBE_beB k (v / 256) (by omega) (by rw [pow_succ256] at h1; omega)]
    omega
theorem bo_lt {n : Int} (h : 0 ≤ n ∧ n ≤ 9223372036854775807) : n < 256 ^ bo n := by
  unfold bo
  repeat' split
  all_goals (simp; omega)

theorem takeK_of {k : Nat} {g : Int → Int} {neg : Bool} {r : List Int} {v : Int} (hk : k ≤ r.length) (hv : ofBE ((r.take k).map g) = v) (h1 : v ≤ 9223372036854775807) (h2 : width (if neg then -v - 1 else v) = 1 + k) : takeK k g neg r = ((if neg then -v - 1 else v : Int), (1 + (k : Int), (0 : Int))) := by
  unfold takeK
  rw [if_neg (by omega), hv, if_neg (by simp; omega)]

/-- an int, put and taken -/
theorem take_int {n : Int} (hn : I64 n) (rest : List Int) : takeInt (intB n ++ rest) = (n, ((width n : Nat) : Int), (0 : Int)) := by
  unfold I64 at hn
  have hw := width_in n
  unfold intB
  split
  · rename_i h
    have := width_one h
    rw [List.singleton_append, takeInt_cons, if_neg (by omega), if_neg (by omega), if_neg (by omega), h]
    simp
  · rename_i h
    split
    · rename_i hneg
      have hk : width n = 1 + bo (-n - 1) := by
        unfold width at h ⊢
        rw [if_neg (by omega)] at h ⊢
        by_cases h9 : n < -100
        · rw [if_pos h9]
        · rw [if_neg h9] at h; exact absurd rfl h
      have hb := bo_in (-n - 1)
      have hlt := bo_lt (n := -n - 1) (by omega)
      rw [hk, List.cons_append, takeInt_cons, if_neg (by omega), if_neg (by omega), if_pos (by omega)]
      rw [show (8 - (9 - ((1 + bo (-n - 1) : Nat) : Int))).toNat = bo (-n - 1) by omega, show 1 + bo (-n - 1) - 1 = bo (-n - 1) by omega]
      generalize bo (-n - 1) = k at *
      have hl : ((beB k (-n - 1)).map (255 - ·)).length = k := by rw [List.length_map, beB_len]
      rw [takeK_of (v := -n - 1) (by rw [List.length_append]; omega) ?_ (by omega) (by rw [if_pos rfl, show -(-n - 1) - 1 = n by omega]; exact hk)]
      · rw [if_pos rfl, show -(-n - 1) - 1 = n by omega]
        simp
      · rw [List.take_left' hl, List.map_map]
        rw [show (List.map ((fun a => 255 - a) ∘ fun x => 255 - x) (beB k (-n - 1))) = beB k (-n - 1) from ?_]
        · exact ofBE_beB k _ (by omega) hlt
        · conv => rhs; rw [← List.map_id (beB k (-n - 1))]
          apply List.map_congr_left
          intro x _
          show 255 - (255 - x) = x
          omega
    · rename_i hneg
      have hk : width n = 1 + bo n := by
        unfold width at h ⊢
        by_cases h9 : 100 < n
        · rw [if_pos h9]
        · rw [if_neg h9, if_neg (by omega)] at h; exact absurd rfl h
      have hb := bo_in n
      have hlt := bo_lt (n := n) (by omega)
      rw [hk, List.cons_append, takeInt_cons, if_neg (by omega), if_pos (by omega)]
      rw [show ((207 + ((1 + bo n : Nat) : Int)) - 208).toNat = bo n by omega, show 1 + bo n - 1 = bo n by omega]
      generalize bo n = k at *
      have hl : (beB k n).length = k := beB_len k n
      rw [takeK_of (v := n) (by rw [List.length_append]; omega) ?_ (by omega) (by rw [if_neg (by simp)]; exact hk)]
      · rw [if_neg (by simp)]
        simp
      · rw [List.take_left' hl, List.map_id']
        exact ofBE_beB k _ (by omega) hlt

theorem num_of {bs : List Int} {a : Nat} {n : Int} {rest : List Int} (hn : I64 n) (h : bs.drop a = intB n ++ rest) : num bs (a, 0) = (n, a + width n, 0) := by
  unfold num
  simp only
  rw [h, take_int hn]
  simp
theorem nth_of {l : List Int} (hl : ∀ x ∈ l, I64 x) : ∀ (k : Nat) (h : k < l.length), nth (intsB l) k = (l[k], (intsB (l.take (k + 1))).length, 0)
  | 0, h => by
    cases l with
    | nil => simp at h
    | cons a l =>
      show num _ (0, 0) = _
      rw [num_of (rest := intsB l) (hl a (by simp)) (by rw [List.drop_zero]; rfl)]
      simp [intsB, intB_len]
  | k + 1, h => by
    show num _ (nth _ k).2 = _
    rw [nth_of hl k (by omega)]
    have h1 : intsB l = intsB (l.take (k + 1)) ++ (intB l[k + 1] ++ intsB (l.drop (k + 2))) := by
      have h2 : l = l.take (k + 1) ++ l[k + 1] :: l.drop (k + 2) := by
        rw [← List.drop_eq_getElem_cons h, List.take_append_drop]
      conv => lhs; rw [h2]
      unfold intsB
      rw [List.flatMap_append, List.flatMap_cons]
    rw [num_of (n := l[k + 1]) (rest := intsB (l.drop (k + 2))) (hl _ (List.getElem_mem h)) (by rw [h1, List.drop_left])]
    have h3 : intsB (l.take (k + 2)) = intsB (l.take (k + 1)) ++ intB l[k + 1] := by
      rw [List.take_add_one, List.getElem?_eq_getElem h, Option.toList_some, intsB_snoc]
    rw [h3, List.length_append, intB_len]
/-- a master, put and taken -/
theorem take_ms {m : Ms} (hm : m.In) (hc : m.chk = 0) : takeM m.b = (m, 0) := by
  have hn := nth_of (l := m.l) hm
  have hl : m.l.length = 8 := rfl
  have h1 : takeMs m.b = m := by
    unfold takeMs Ms.b
    rw [hn 0 (by omega), hn 1 (by omega), hn 2 (by omega), hn 3 (by omega), hn 4 (by omega), hn 5 (by omega), hn 6 (by omega), hn 7 (by omega)]
    rfl
  have h2 : takeEr m.b = 0 := by
    unfold takeEr
    rw [h1, hc]
    unfold Ms.b
    rw [hn 7 (by omega)]
    have : m.l.take (7 + 1) = m.l := rfl
    rw [this]
    unfold endE
    simp
  unfold takeM
  rw [h1, h2]
  simp

theorem ofBE_be4 {s : Int} (h : 0 ≤ s ∧ s < 4294967296) : ofBE (be4 s) = s := by
  unfold be4 ofBE
  simp only [List.foldl]
  omega
/-- a frame, put and taken -/
theorem unfr_frame {h : Int} {body sum z : List Int} (hh : h = body.length + 108) (hb : body.length ≤ 100) (hs : sum.length = 4) :
    unfr (h :: (body ++ (sum ++ z))) = (if adler body ≠ ofBE sum then ((12 : Int), ([] : List Int), (0 : Int)) else ((0 : Int), body, ((1 + body.length + 4 : Nat) : Int))) := by
  subst hh
  have ht : takeInt (((body.length : Int) + 108) :: (body ++ (sum ++ z))) = ((body.length : Int) + 108 - 108, 1, 0) := by
    rw [takeInt_cons, if_neg (by omega), if_neg (by omega), if_neg (by omega)]
  unfold unfr
  rw [ht, if_neg (by simp)]
  simp only
  unfold unfrK
  have e1 : ((body.length : Int) + 108 - 108).toNat = body.length := by omega
  have e2 : ((1 : Int)).toNat = 1 := rfl
  rw [if_neg (by omega), if_neg (by omega), if_neg (by simp only [List.length_cons, List.length_append, e2]; omega), e1, e2]
  rw [List.drop_one, List.tail_cons, List.take_left]
  have e3 : (((body.length : Int) + 108) :: (body ++ (sum ++ z))).drop (1 + body.length) = sum ++ z := by
    rw [Nat.add_comm, List.drop_succ_cons, List.drop_left]
  rw [e3, List.take_left' hs]
  split
  · rfl
  · congr 2
    omega
theorem Ms.sec_eq (m : Ms) : m.sec = ((m.b.length : Int) + 108) :: (m.b ++ (be4 (adler m.b) ++ List.replicate (507 - m.b.length) 0)) := by
  have h1 := m.b_len
  have h2 : width (m.b.length : Int) = 1 := by unfold width; rw [if_neg (by omega), if_neg (by omega)]
  unfold Ms.sec frame intB
  rw [if_pos h2]
  simp only [List.append_assoc, List.cons_append, List.nil_append, List.length_cons, List.length_append]
  have : (be4 (adler m.b)).length = 4 := rfl
  rw [this, show 512 - (m.b.length + 4 + 1) = 507 - m.b.length by omega]
theorem parse_of {h : Int} {body sum z : List Int} (hh : h = body.length + 108) (hb : body.length ≤ 100) (hs : sum.length = 4) (hz : z.length = 507 - body.length) :
    parseM (h :: (body ++ (sum ++ z))) = if adler body ≠ ofBE sum then (Ms.zero, 200) else if (takeM body).2 ≠ 0 then (Ms.zero, 200) else if ∀ x ∈ z, x = 0 then ((takeM body).1, 0) else (Ms.zero, 200) := by
  unfold parseM
  rw [if_neg (by simp only [List.length_cons, List.length_append]; omega), unfr_frame hh hb hs]
  by_cases h1 : adler body ≠ ofBE sum
  · rw [if_pos h1, if_pos h1, if_pos (by simp)]
  · rw [if_neg h1, if_neg h1, if_neg (by simp)]
    simp only [Int.toNat_natCast]
    have e1 : (h :: (body ++ (sum ++ z))).drop (1 + body.length + 4) = z := by
      rw [show 1 + body.length + 4 = (body.length + 4) + 1 by omega, List.drop_succ_cons, ← List.append_assoc, List.drop_left' (by rw [List.length_append]; omega)]
    rw [e1]
/-- a master's sector, parsed -/
theorem parse_sec {m : Ms} (hm : m.In) (hc : m.chk = 0) : parseM m.sec = (m, 0) := by
  have h1 := m.b_len
  rw [m.sec_eq, parse_of rfl (by omega) rfl (by rw [List.length_replicate]), ofBE_be4 (adler_in _), if_neg (by simp), take_ms hm hc, if_neg (by simp), if_pos]
  intro x hx
  exact List.eq_of_mem_replicate hx
end Go.Gsl
