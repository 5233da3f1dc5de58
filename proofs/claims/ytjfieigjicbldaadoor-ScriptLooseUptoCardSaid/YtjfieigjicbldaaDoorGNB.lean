/- Scripts: a word's number, by the document's rule (plain Lean). -/
import Derived.Test.YtjfieigjicbldaaDoorGN
import Derived.Lib.AtoiAllCases
namespace Go.Gsl
set_option linter.unusedVariables false

/-- digits' number -/
def digR (acc : Nat) : Bs → Option Nat
  | [] => some acc
  | c :: r => if 48 ≤ iv c ∧ iv c ≤ 57 then digR (10 * acc + (c.toNat - 48)) r else none
theorem digR_cons (acc : Nat) (c : UInt8) (r : Bs) : digR acc (c :: r) = if 48 ≤ iv c ∧ iv c ≤ 57 then digR (10 * acc + (c.toNat - 48)) r else none := rfl
theorem digR_app : ∀ (a b : Bs) (acc : Nat), digR acc (a ++ b) = (digR acc a).bind fun m => digR m b
  | [], b, acc => rfl
  | c :: a, b, acc => by
    rw [List.cons_append, digR_cons, digR_cons]
    by_cases h : 48 ≤ iv c ∧ iv c ≤ 57
    · rw [if_pos h, if_pos h]; exact digR_app a b _
    · rw [if_neg h, if_neg h]; rfl
theorem digR_ge : ∀ (l : Bs) (acc u : Nat), digR acc l = some u → acc ≤ u
  | [], acc, u, h => by obtain rfl := Option.some.inj h; exact Nat.le_refl _
  | c :: l, acc, u, h => by
    rw [digR_cons] at h
    split at h
    · have := digR_ge l _ u h; omega
    · cases h
theorem digR_lt : ∀ (l : Bs) (acc u : Nat), digR acc l = some u → u < (acc + 1) * 10 ^ l.length
  | [], acc, u, h => by obtain rfl := Option.some.inj h; simp
  | c :: l, acc, u, h => by
    rw [digR_cons] at h
    split at h
    · rename_i hc
      have h1 := digR_lt l _ u h
      have h2 : iv c = (c.toNat : Int) := rfl
      have h3 : (10 * acc + (c.toNat - 48) + 1) * 10 ^ l.length ≤ ((acc + 1) * 10) * 10 ^ l.length := Nat.mul_le_mul_right _ (by omega)
      rw [List.length_cons, Nat.pow_succ, Nat.mul_comm (10 ^ l.length) 10, ← Nat.mul_assoc]
      omega
    · cases h
theorem digR_parse : ∀ (l : Bs) (acc u : Nat), Lib.parseUint10 acc l = .ok u → digR acc l = some u
  | [], acc, u, h => by
    rw [Lib.parseUint10] at h
    injection h with h
    rw [h]; rfl
  | c :: l, acc, u, h => by
    rw [Lib.parseUint10] at h
    rw [digR_cons]
    split at h
    · rename_i hc
      split at h
      · cases h
      · split at h
        · cases h
        · rw [if_pos (by unfold iv; omega)]
          rw [Nat.mul_comm 10 acc]
          exact digR_parse l _ u h
    · cases h
theorem parse_digR : ∀ (l : Bs) (acc u : Nat), digR acc l = some u → u < 18446744073709551616 → Lib.parseUint10 acc l = .ok u
  | [], acc, u, h, hu => by obtain rfl := Option.some.inj h; rfl
  | c :: l, acc, u, h, hu => by
    rw [digR_cons] at h
    split at h
    · rename_i hc
      have h2 : iv c = (c.toNat : Int) := rfl
      have h1 := digR_ge l _ u h
      rw [Lib.parseUint10, if_pos (by omega), if_neg (by omega), if_neg (by omega), Nat.mul_comm acc 10]
      exact parse_digR l _ u h hu
    · cases h
theorem digC (d : Nat) (h : d < 10) : (UInt8.ofNat (48 + d)).toNat = 48 + d := by rw [UInt8.toNat_ofNat', Nat.mod_eq_of_lt (by omega)]
theorem digR_dec (u : Nat) : digR 0 (Lib.decDigits u) = some u := by
  induction u using Nat.strongRecOn with
  | _ u ih =>
    by_cases h : u < 10
    · rw [Lib.decDigits, dif_pos h, digR_cons]
      have := digC u h
      rw [if_pos (by unfold iv; omega), this]
      show some _ = _
      congr 1; omega
    · rw [Lib.decDigits, dif_neg h, digR_app, ih (u / 10) (by omega)]
      have := digC (u % 10) (by omega)
      show digR (u / 10) _ = _
      rw [digR_cons, if_pos (by unfold iv; omega), this]
      show some _ = _
      congr 1; omega
theorem dec_ne (u : Nat) : Lib.decDigits u ≠ [] := by
  intro h
  have := Lib.decDigits_length u
  have h2 := Lib.nDigits_pos u
  rw [h] at this
  simp at this; omega
theorem dec_head (u : Nat) (h : 1 ≤ u) : (Lib.decDigits u).head? ≠ some 48 := by
  induction u using Nat.strongRecOn with
  | _ u ih =>
    by_cases h1 : u < 10
    · rw [Lib.decDigits, dif_pos h1]
      intro h2
      simp only [List.head?_cons, Option.some.injEq] at h2
      have := digC u h1
      rw [h2] at this
      have h48 : (48 : UInt8).toNat = 48 := rfl
      omega
    · have hi := ih (u / 10) (by omega) (by omega)
      have hn := dec_ne (u / 10)
      rw [Lib.decDigits, dif_neg h1]
      cases hd : Lib.decDigits (u / 10) with
      | nil => exact absurd hd hn
      | cons a l => rw [hd] at hi; simpa using hi
theorem digR_pos (c : UInt8) (l : Bs) (u : Nat) (h : digR 0 (c :: l) = some u) (hc : c ≠ 48) : 1 ≤ u := by
  rw [digR_cons] at h
  split at h
  · have := digR_ge l _ u h
    have h2 : iv c = (c.toNat : Int) := rfl
    have h3 : c.toNat ≠ 48 := fun g => hc (UInt8.toNat_inj.1 g)
    omega
  · cases h
/-- digits without a nought ahead are their number's numeral -/
theorem dec_digR : ∀ (k : Nat) (r : Bs) (u : Nat), r.length = k → r ≠ [] → digR 0 r = some u → (r.head? ≠ some 48 ∨ r.length = 1) → Lib.decDigits u = r
  | 0, r, u, hk, hn, _, _ => absurd (List.length_eq_zero_iff.1 hk) hn
  | k + 1, r, u, hk, hn, h, hh => by
    obtain ⟨a, c, rfl⟩ : ∃ a c, r = a ++ [c] := ⟨r.dropLast, r.getLast hn, (List.dropLast_concat_getLast hn).symm⟩
    have hal : a.length = k := by simpa using hk
    rw [digR_app] at h
    cases hm : digR 0 a with
    | none => rw [hm] at h; cases h
    | some m =>
      rw [hm] at h
      simp only [Option.bind_some] at h
      rw [digR_cons] at h
      have h2 : iv c = (c.toNat : Int) := rfl
      have hc : 48 ≤ iv c ∧ iv c ≤ 57 := Classical.byContradiction fun hc => by rw [if_neg hc] at h; cases h
      rw [if_pos hc] at h
      obtain rfl := Option.some.inj h
      have hcc : UInt8.ofNat (48 + (c.toNat - 48)) = c := by
        rw [show 48 + (c.toNat - 48) = c.toNat by omega]; simp
      cases a with
      | nil =>
        obtain rfl := Option.some.inj hm
        rw [Lib.decDigits, dif_pos (by omega), List.nil_append, show 10 * 0 + (c.toNat - 48) = c.toNat - 48 by omega, hcc]
      | cons a0 a =>
        have h0 : a0 ≠ 48 := by
          rcases hh with hh | hh
          · intro g; apply hh; simp [g]
          · simp at hh
        have hm1 := digR_pos a0 a m hm h0
        have ih := dec_digR k (a0 :: a) m hal (by simp) hm (.inl (by simpa using h0))
        rw [Lib.decDigits, dif_neg (by omega), show (10 * m + (c.toNat - 48)) / 10 = m by omega, show (10 * m + (c.toNat - 48)) % 10 = c.toNat - 48 by omega, ih, hcc]

/-- a word's number, as the document has it -/
def isNeg (s : Bs) : Bool := decide (1 < s.length) && decide (s.head? = some 45)
def magOf (s : Bs) : Bs := if isNeg s then s.drop 1 else s
def numR (s : Bs) : Option Int :=
  if magOf s = [] ∨ 19 < (magOf s).length ∨ ((magOf s).head? = some 48 ∧ (1 < (magOf s).length ∨ isNeg s)) then none
  else match digR 0 (magOf s) with
    | none => none
    | some n => if (if isNeg s then 9223372036854775808 else 9223372036854775807) < n then none else some (if isNeg s then -(n : Int) else n)

theorem dig_head {l : Bs} {u : Nat} {c : UInt8} {r : Bs} (h : digR 0 l = some u) (hl : l = c :: r) : 48 ≤ iv c ∧ iv c ≤ 57 := by
  subst hl
  rw [digR_cons] at h
  by_cases hc : 48 ≤ iv c ∧ iv c ≤ 57
  · exact hc
  · rw [if_neg hc] at h; cases h
theorem numR_of {s : Bs} {v : Int} (h : numR s = some v) : numOf s = some v := by
  unfold numR at h
  split at h
  · cases h
  rename_i hc
  have hc1 : ¬ magOf s = [] := fun g => hc (.inl g)
  have hc2 : (magOf s).length ≤ 19 := Nat.le_of_not_lt fun g => hc (.inr (.inl g))
  have hc3 : ¬ ((magOf s).head? = some 48 ∧ (1 < (magOf s).length ∨ isNeg s)) := fun g => hc (.inr (.inr g))
  cases hd : digR 0 (magOf s) with
  | none => rw [hd] at h; cases h
  | some n =>
    rw [hd] at h
    simp only at h
    have hm : ¬ (if isNeg s then 9223372036854775808 else 9223372036854775807) < n := fun hm => by rw [if_pos hm] at h; cases h
    rw [if_neg hm] at h
    have hn : n < 18446744073709551616 := by split at hm <;> omega
    have hp : Lib.parseMag (magOf s) = .ok n := by unfold Lib.parseMag; rw [if_neg hc1]; exact parse_digR _ _ _ hd hn
    have hdec : Lib.decDigits n = magOf s := dec_digR _ _ _ rfl hc1 hd (by
      by_cases h1 : (magOf s).head? = some 48
      · right
        have hl : ¬ 1 < (magOf s).length := fun g => hc3 ⟨h1, .inl g⟩
        have h0 : (magOf s).length ≠ 0 := fun g => hc1 (List.length_eq_zero_iff.1 g)
        omega
      · exact .inl h1)
    obtain rfl := Option.some.inj h
    cases s with
    | nil => exact absurd rfl hc1
    | cons c r =>
      cases hneg : isNeg (c :: r) with
      | true =>
        have e0 : magOf (c :: r) = r := by unfold magOf; rw [if_pos hneg]; rfl
        have hc45 : c = 45 := by
          unfold isNeg at hneg
          simp at hneg
          exact hneg.2
        rw [e0] at hp hdec hc3 hd
        rw [hneg] at hm hc3
        simp only [if_true] at hm
        subst hc45
        have hat : Lib.atoiAll (45 :: r) = .ok (-(n : Int)) := by
          unfold Lib.atoiAll
          have e45 : (45 : UInt8).toNat = 45 := rfl
          simp only [e45]
          rw [if_pos (.inr trivial), hp]
          simp only
          rw [if_neg (by simp), if_neg (by simp; omega), if_pos (by trivial)]
        have hn1 : 1 ≤ n := by
          cases r with
          | nil => rw [e0] at hc1; exact absurd rfl hc1
          | cons a r =>
            refine digR_pos a r n hd fun g => hc3 ⟨by simp [g], .inr rfl⟩
        unfold numOf
        rw [hat]
        simp only [if_true]
        rw [if_pos]
        unfold Lib.itoa
        rw [if_pos (by omega), show (-(n : Int)).natAbs = n by omega, hdec]
      | false =>
        have e0 : magOf (c :: r) = c :: r := by unfold magOf; rw [if_neg (by rw [hneg]; simp)]
        rw [e0] at hp hdec hd
        have hch := dig_head hd rfl
        rw [hneg] at hm
        simp only [Bool.false_eq_true, if_false] at hm
        have hiv : iv c = (c.toNat : Int) := rfl
        have hat : Lib.atoiAll (c :: r) = .ok (n : Int) := by
          unfold Lib.atoiAll
          simp only
          rw [if_neg (by omega), hp]
          simp only
          rw [if_neg (by omega), if_neg (by omega), if_neg (by omega)]
        unfold numOf
        rw [hat]
        simp only [Bool.false_eq_true, if_false]
        rw [if_pos]
        unfold Lib.itoa
        rw [if_neg (by omega), show ((n : Nat) : Int).toNat = n by omega, hdec]
theorem numR_itoa (k : Int) (hb : -9223372036854775808 ≤ k ∧ k ≤ 9223372036854775807) : numR (Lib.itoa k) = some k := by
  obtain ⟨s, hi⟩ : ∃ s, Lib.itoa k = s := ⟨_, rfl⟩
  rw [hi]
  · skip
    have hlen : ∀ u : Nat, u ≤ 9223372036854775808 → (Lib.decDigits u).length ≤ 19 := fun u hu => by
      rw [Lib.decDigits_length]
      have h1 := Lib.lt_pow_nDigits u
      refine Classical.byContradiction fun hg => ?_
      have h2 : ∀ m u, 19 < m → Lib.nDigits u = m → 10 ^ 19 ≤ u := by
        intro m
        induction m with
        | zero => intro u h; omega
        | succ m ih =>
          intro u hm hu
          by_cases h10 : u < 10
          · rw [Lib.nDigits_small h10] at hu; omega
          · rw [Lib.nDigits_big h10] at hu
            by_cases hm2 : 19 < m
            · have := ih (u / 10) hm2 (by omega); omega
            · have hm19 : Lib.nDigits (u / 10) = 19 := by omega
              have key : ∀ j w, Lib.nDigits w = j + 1 → 10 ^ j ≤ w ∨ w = 0 := by
                intro j
                induction j with
                | zero => intro w _; rcases Nat.eq_zero_or_pos w with h | h; exact .inr h; exact .inl (by simpa using (show 1 ≤ w from h))
                | succ j ihj =>
                  intro w hw
                  by_cases hw10 : w < 10
                  · rw [Lib.nDigits_small hw10] at hw; omega
                  · rw [Lib.nDigits_big hw10] at hw
                    rcases ihj (w / 10) (by omega) with h | h
                    · left; rw [Nat.pow_succ]; omega
                    · omega
              rcases key 18 (u / 10) hm19 with h | h
              · have : (10 : Nat) ^ 19 = 10 ^ 18 * 10 := rfl
                omega
              · omega
      have := h2 _ u (by omega) rfl
      omega
    by_cases hv : k < 0
    · have hs : s = 45 :: Lib.decDigits k.natAbs := by rw [← hi]; unfold Lib.itoa; rw [if_pos hv]
      have hne := dec_ne k.natAbs
      have hneg : isNeg s = true := by
        unfold isNeg
        rw [hs]
        have : 0 < (Lib.decDigits k.natAbs).length := List.length_pos_iff.2 hne
        simp [this]
      have hmag : magOf s = Lib.decDigits k.natAbs := by unfold magOf; rw [if_pos hneg, hs]; rfl
      have hl := hlen k.natAbs (by omega)
      unfold numR
      rw [hmag, hneg, if_neg, digR_dec]
      · simp only [if_true]
        rw [if_neg (by omega)]
        congr 1; omega
      · rintro (g | g | ⟨g, _⟩)
        · exact hne g
        · omega
        · exact dec_head _ (by omega) g
    · have hs : s = Lib.decDigits k.toNat := by rw [← hi]; unfold Lib.itoa; rw [if_neg hv]
      have hne := dec_ne k.toNat
      have hd := digR_dec k.toNat
      have hneg : isNeg s = false := by
        unfold isNeg
        rw [hs]
        cases hdd : Lib.decDigits k.toNat with
        | nil => exact absurd hdd hne
        | cons a l =>
          have := dig_head hd hdd
          have : a ≠ 45 := by rintro rfl; exact absurd this (by decide)
          simp [this]
      have hmag : magOf s = Lib.decDigits k.toNat := by unfold magOf; rw [if_neg (by rw [hneg]; simp), hs]
      have hl := hlen k.toNat (by omega)
      unfold numR
      rw [hmag, hneg, if_neg, hd]
      · simp only [Bool.false_eq_true, if_false]
        rw [if_neg (by omega)]
        congr 1; omega
      · rintro (g | g | ⟨g, g2⟩)
        · exact hne g
        · omega
        · rcases Nat.eq_zero_or_pos k.toNat with h0 | h0
          · rw [h0] at g2
            simp [Lib.decDigits] at g2
          · exact dec_head _ h0 g
theorem numOf_R {s : Bs} {v : Int} (h : numOf s = some v) : numR s = some v := by
  unfold numOf at h
  cases hA : Lib.atoiAll s
  rotate_left
  · rw [hA] at h; cases h
  · rw [hA] at h; cases h
  · rename_i k
    rw [hA] at h
    simp only at h
    have hb := Lib.atoiAll_bounds hA
    have hi : Lib.itoa k = s := Classical.byContradiction fun hi => by rw [if_neg hi] at h; cases h
    rw [if_pos hi] at h
    obtain rfl := Option.some.inj h
    rw [← hi]
    exact numR_itoa k hb
theorem numR_eq (s : Bs) : numR s = numOf s := by
  cases h : numR s with
  | some v => exact (numR_of h).symm
  | none =>
    cases h2 : numOf s with
    | none => rfl
    | some v => rw [numOf_R h2] at h; cases h
end Go.Gsl

namespace Go.Gsl
set_option linter.unusedVariables false

theorem ws_end : wordsL [] = some [] := by rw [wordsL_step]; rfl
theorem ws_sp (r : Bs) : wordsL (32 :: r) = wordsL r := by
  rw [wordsL_step, wordsL_step r]
  have : trimL (32 :: r) = trimL r := rfl
  rw [this]
theorem trimL_of {c : UInt8} {r : Bs} (h : c ≠ 32) : trimL (c :: r) = c :: r := by
  unfold trimL; rw [List.dropWhile_cons, if_neg (by simpa using h)]
theorem ws_hash2 (r : Bs) : wordsL (35 :: r) = some [] := by
  rw [wordsL_step, trimL_of (by decide)]; rfl
theorem ws_txt (r : Bs) : wordsL (34 :: r) = (match unq [] r with
    | none => none
    | some (t, rest) => (wordsL rest).map (⟨t, true⟩ :: ·)) := by
  rw [wordsL_step, trimL_of (by decide)]; rfl
theorem dropW_cut (c : UInt8) (y : Bs) : y.dropWhile (· != c) = [] ∧ cutR c y = [] ∨ y.dropWhile (· != c) = c :: cutR c y := by
  unfold cutR
  cases h : y.dropWhile (· != c) with
  | nil => exact .inl ⟨rfl, rfl⟩
  | cons a l =>
    right
    have := List.head_dropWhile_not (l := y) (fun x => x != c) (by rw [h]; simp)
    simp only [h, List.head_cons] at this
    simp at this
    subst this
    rfl
theorem ws_drop (y : Bs) : wordsL (y.dropWhile (· != 32)) = wordsL (cutR 32 y) := by
  rcases dropW_cut 32 y with ⟨h1, h2⟩ | h
  · rw [h1, h2]
  · rw [h, ws_sp]
theorem ws_word {c : UInt8} {r : Bs} (h0 : iv c ≠ 32) (h1 : iv c ≠ 35) (h2 : iv c ≠ 34) : wordsL (c :: r) = (wordsL ((c :: r).dropWhile (· != 32))).map (⟨cutW 32 (c :: r), false⟩ :: ·) := by
  rw [ws_drop, wordsL_step, trimL_of (by rintro rfl; exact h0 rfl)]
  simp only
  rw [if_neg h1, if_neg h2]
/-- words that are no texts are not empty -/
theorem words_ne : ∀ (n : Nat) (s : Bs) (l : List Tok), s.length ≤ n → wordsL s = some l → ∀ x ∈ l, x.t = false → x.s ≠ []
  | n, s, l, hn, h => by
    rw [wordsL_step] at h
    have ht := trimL_len s
    cases hx : trimL s with
    | nil => rw [hx] at h; simp only at h; obtain rfl := Option.some.inj h; exact fun x hx => by cases hx
    | cons x r =>
      rw [hx] at h ht
      simp only [List.length_cons] at h ht
      cases n with
      | zero => omega
      | succ n =>
      split at h
      · obtain rfl := Option.some.inj h; exact fun x hx => by cases hx
      · split at h
        · cases hu : unq [] r with
          | none => rw [hu] at h; cases h
          | some p =>
            obtain ⟨t, rest⟩ := p
            rw [hu] at h
            simp only at h
            have h1 := unq_sum _ _ _ _ _ (Nat.le_refl _) hu
            simp only [List.length_nil] at h1
            cases hw : wordsL rest with
            | none => rw [hw] at h; cases h
            | some l' =>
              rw [hw] at h
              obtain rfl := Option.some.inj h
              intro y hy hf
              rcases List.mem_cons.1 hy with rfl | hy
              · cases hf
              · exact words_ne n rest l' (by omega) hw y hy hf
        · have h1 := cutR_len 32 x r
          simp only [List.length_cons] at h1
          cases hw : wordsL (cutR 32 (x :: r)) with
          | none => rw [hw] at h; cases h
          | some l' =>
            rw [hw] at h
            obtain rfl := Option.some.inj h
            intro y hy hf
            rcases List.mem_cons.1 hy with rfl | hy
            · have hx32 : x ≠ 32 := by
                intro g
                have := List.head_dropWhile_not (l := s) (fun y => y == 32) (by have hx' : s.dropWhile (· == 32) = x :: r := hx; rw [hx']; simp)
                have hx' : s.dropWhile (· == 32) = x :: r := hx
                simp only [hx', List.head_cons] at this
                simp [g] at this
              show cutW 32 (x :: r) ≠ []
              unfold cutW
              rw [List.takeWhile_cons, if_pos (by simpa using hx32)]
              simp
            · exact words_ne n _ l' (by omega) hw y hy hf

/-! ### a line's form by the document's letters -/
def shp (c : UInt8) : UInt8 := if c = 119 then 108 else c
def shapeOf (s : Bs) : Option Bs := (formOf s).map (·.map shp)
def keepsQ (s : Bs) : Option (List Bool) := if s = [] then none else keepsS s
def kindR (c : UInt8) (w : Tok) : Bool := (w.t == decide (iv c = 116)) && (!(decide (iv c = 108)) || decide (w.s = wSnapshot) || decide (w.s = wSerial))
def fitsR (l : List Tok) (cs : Bs) : Bool := decide (l.length = cs.length) && (List.zip cs l).all (fun p => kindR p.1 p.2)
def numsR1 (c : UInt8) (w : Tok) : Bool := (!(decide (iv c = 110)) || (numOf w.s).isSome) && (!(decide (iv c = 107)) || (keepsQ w.s).isSome)
def numsR (l : List Tok) (cs : Bs) : Bool := (List.zip cs l).all (fun p => numsR1 p.1 p.2)
def fLet (c : UInt8) : Prop := c = 110 ∨ c = 116 ∨ c = 107 ∨ c = 119
theorem form_let (s cs : Bs) (h : formOf s = some cs) : ∀ c ∈ cs, fLet c := by
  have key : ∀ c0 ∈ ([[110, 110, 110, 110, 110, 110, 110], [110, 119], [110, 116], [110, 116, 116], [110], [], [116], [107], [110, 107]] : List Bs), ∀ c ∈ c0, c = 110 ∨ c = 116 ∨ c = 107 ∨ c = 119 := by decide +kernel
  refine key cs ?_
  unfold formOf at h
  by_cases h1 : s = wStore
  · rw [if_pos h1] at h; obtain rfl := Option.some.inj h; decide +kernel
  rw [if_neg h1] at h; clear h1
  by_cases h1 : s = wBegin
  · rw [if_pos h1] at h; obtain rfl := Option.some.inj h; decide +kernel
  rw [if_neg h1] at h; clear h1
  by_cases h1 : s = wGet
  · rw [if_pos h1] at h; obtain rfl := Option.some.inj h; decide +kernel
  rw [if_neg h1] at h; clear h1
  by_cases h1 : s = wDelete
  · rw [if_pos h1] at h; obtain rfl := Option.some.inj h; decide +kernel
  rw [if_neg h1] at h; clear h1
  by_cases h1 : s = wPut
  · rw [if_pos h1] at h; obtain rfl := Option.some.inj h; decide +kernel
  rw [if_neg h1] at h; clear h1
  by_cases h1 : s = wScan
  · rw [if_pos h1] at h; obtain rfl := Option.some.inj h; decide +kernel
  rw [if_neg h1] at h; clear h1
  by_cases h1 : s = wCommit
  · rw [if_pos h1] at h; obtain rfl := Option.some.inj h; decide +kernel
  rw [if_neg h1] at h; clear h1
  by_cases h1 : s = wAbort
  · rw [if_pos h1] at h; obtain rfl := Option.some.inj h; decide +kernel
  rw [if_neg h1] at h; clear h1
  by_cases h1 : s = wStep
  · rw [if_pos h1] at h; obtain rfl := Option.some.inj h; decide +kernel
  rw [if_neg h1] at h; clear h1
  by_cases h1 : s = wPick
  · rw [if_pos h1] at h; obtain rfl := Option.some.inj h; decide +kernel
  rw [if_neg h1] at h; clear h1
  by_cases h1 : s = wRun
  · rw [if_pos h1] at h; obtain rfl := Option.some.inj h; decide +kernel
  rw [if_neg h1] at h; clear h1
  by_cases h1 : s = wEpoch
  · rw [if_pos h1] at h; obtain rfl := Option.some.inj h; decide +kernel
  rw [if_neg h1] at h; clear h1
  by_cases h1 : s = wSave
  · rw [if_pos h1] at h; obtain rfl := Option.some.inj h; decide +kernel
  rw [if_neg h1] at h; clear h1
  by_cases h1 : s = wForget
  · rw [if_pos h1] at h; obtain rfl := Option.some.inj h; decide +kernel
  rw [if_neg h1] at h; clear h1
  by_cases h1 : s = wAll
  · rw [if_pos h1] at h; obtain rfl := Option.some.inj h; decide +kernel
  rw [if_neg h1] at h; clear h1
  by_cases h1 : s = wRestart
  · rw [if_pos h1] at h; obtain rfl := Option.some.inj h; decide +kernel
  rw [if_neg h1] at h; clear h1
  by_cases h1 : s = wRest
  · rw [if_pos h1] at h; obtain rfl := Option.some.inj h; decide +kernel
  rw [if_neg h1] at h; clear h1
  by_cases h1 : s = wPrune
  · rw [if_pos h1] at h; obtain rfl := Option.some.inj h; decide +kernel
  rw [if_neg h1] at h; clear h1
  by_cases h1 : s = wShrink
  · rw [if_pos h1] at h; obtain rfl := Option.some.inj h; decide +kernel
  rw [if_neg h1] at h; clear h1
  by_cases h1 : s = wCrash
  · rw [if_pos h1] at h; obtain rfl := Option.some.inj h; decide +kernel
  rw [if_neg h1] at h; clear h1
  by_cases h1 : s = wFuse
  · rw [if_pos h1] at h; obtain rfl := Option.some.inj h; decide +kernel
  rw [if_neg h1] at h; clear h1
  cases h
theorem kind_shp {c : UInt8} (h : fLet c) (w : Tok) : kindR (shp c) w = kindOk c w := by
  unfold kindR kindOk
  rcases h with rfl | rfl | rfl | rfl <;> rfl
theorem zip_all : ∀ (cs : Bs) (l : List Tok), (∀ c ∈ cs, fLet c) → (List.zip (cs.map shp) l).all (fun p => kindR p.1 p.2) = (List.zip cs l).all (fun p => kindOk p.1 p.2)
  | [], l, _ => by simp
  | c :: cs, [], _ => by simp
  | c :: cs, w :: l, h => by
    simp only [List.map_cons, List.zip_cons_cons, List.all_cons]
    rw [kind_shp (h c (by simp)), zip_all cs l (fun x hx => h x (by simp [hx]))]
theorem fits_shp {cs : Bs} (l : List Tok) (h : ∀ c ∈ cs, fLet c) : fitsR l (cs.map shp) = (decide (l.length = cs.length) && (List.zip cs l).all (fun p => kindOk p.1 p.2)) := by
  unfold fitsR; rw [zip_all cs l h, List.length_map]

theorem nums_add : ∀ (cs : Bs) (l : List Tok) (f : Flds), (∀ c ∈ cs, fLet c) → l.length = cs.length → (List.zip cs l).all (fun p => kindOk p.1 p.2) = true → (∀ x ∈ l, x.t = false → x.s ≠ []) →
    (addVals f cs l).isSome = numsR l (cs.map shp)
  | [], l, f, _, hl, _, _ => by
    have : l = [] := List.length_eq_zero_iff.1 hl
    subst this; rfl
  | c :: cs, [], f, _, hl, _, _ => by simp at hl
  | c :: cs, w :: l, f, hc, hl, hk, hn => by
    simp only [List.zip_cons_cons, List.all_cons, Bool.and_eq_true] at hk
    have ih := fun f => nums_add cs l f (fun x hx => hc x (by simp [hx])) (by simpa using hl) hk.2 (fun x hx => hn x (by simp [hx]))
    have e1 : numsR (w :: l) ((c :: cs).map shp) = (numsR1 (shp c) w && numsR l (cs.map shp)) := rfl
    rw [addVals, e1]
    have hk1 := hk.1
    rcases hc c (by simp) with rfl | rfl | rfl | rfl
    · have e2 : numsR1 (shp 110) w = (numOf w.s).isSome := by
        show ((false || (numOf w.s).isSome) && (true || _)) = _
        simp
      have e3 : addVal f 110 w = (numOf w.s).map fun v => { f with n := f.n ++ [v] } := rfl
      rw [e2, e3]
      cases numOf w.s with
      | none => rfl
      | some v => simp only [Option.map_some, Option.bind_some, ih]; simp
    · have e2 : numsR1 (shp 116) w = true := rfl
      have e3 : addVal f 116 w = some { f with t := f.t ++ [w.s] } := rfl
      rw [e2, e3]
      simp only [Option.bind_some, ih]; simp
    · have e2 : numsR1 (shp 107) w = (keepsQ w.s).isSome := by
        show ((true || _) && (false || (keepsQ w.s).isSome)) = _
        simp
      have e3 : addVal f 107 w = (keepsS w.s).map fun k => { f with k := k } := rfl
      have hwt : w.t = false := by
        unfold kindOk at hk1
        simp only [Bool.and_eq_true] at hk1
        have := hk1.1
        cases hw : w.t with
        | false => rfl
        | true => rw [hw] at this; exact absurd this (by decide)
      have hws := hn w (by simp) hwt
      have e4 : keepsQ w.s = keepsS w.s := by unfold keepsQ; rw [if_neg hws]
      rw [e2, e3, e4]
      cases keepsS w.s with
      | none => rfl
      | some v => simp only [Option.map_some, Option.bind_some, ih]; simp
    · have e2 : numsR1 (shp 119) w = true := rfl
      have e3 : addVal f 119 w = some { f with t := f.t ++ [w.s] } := rfl
      rw [e2, e3]
      simp only [Option.bind_some, ih]; simp
end Go.Gsl

namespace Go.Gsl
set_option linter.unusedVariables false

def kindN (s : Bs) : Int :=
  if s = wBegin then 1 else if s = wGet then 2 else if s = wPut then 3 else if s = wDelete then 4 else if s = wScan then 5 else if s = wCommit then 6 else if s = wAbort then 7
  else if s = wEpoch then 8 else if s = wPrune then 9 else if s = wShrink then 10 else if s = wSave then 11 else if s = wForget then 12 else 0
def doesN (s : Bs) : Int :=
  if s = wStep then 2 else if s = wPick then 3 else if s = wRun then 4 else if s = wAll then 5 else if s = wCrash then 6 else if s = wFuse then 7 else if s = wRestart then 8 else 9
def act0 (s : Bs) : Act := ⟨if kindN s = 0 then doesN s else 1, if 8 ≤ kindN s then 16 else 0, { noCall with kind := kindN s }, []⟩
def stepR (s : Bs) (p : Act × Nat) (c : UInt8) (w : Tok) : Act × Nat :=
  if iv c = 110 then ({ p.1 with n := (numOf w.s).getD 0 }, p.2)
  else if iv c = 107 then ({ p.1 with k := (keepsQ w.s).getD [] }, p.2)
  else if iv c = 108 then ({ p.1 with c := { p.1.c with level := if w.s = wSerial then 2 else 1 } }, p.2)
  else if iv c = 116 then
    (if s = wScan then (if p.2 = 0 then { p.1 with c := { p.1.c with low := w.s } } else { p.1 with c := { p.1.c with high := w.s } })
     else if p.2 = 0 then { p.1 with c := { p.1.c with key := w.s } } else { p.1 with c := { p.1.c with value := w.s } }, p.2 + 1)
  else p
def foldR (s : Bs) : Act × Nat → Bs → List Tok → Act × Nat
  | p, c :: cs, w :: ws => foldR s (stepR s p c w) cs ws
  | p, _, _ => p

theorem av_n {f : Flds} {cs : Bs} {w : Tok} {ws : List Tok} {g : Flds} (h : addVals f (110 :: cs) (w :: ws) = some g) : ∃ v, numOf w.s = some v ∧ addVals { f with n := f.n ++ [v] } cs ws = some g := by
  rw [addVals, show addVal f 110 w = (numOf w.s).map fun v => { f with n := f.n ++ [v] } from rfl] at h
  cases hn : numOf w.s with
  | none => rw [hn] at h; cases h
  | some v => rw [hn] at h; exact ⟨v, rfl, h⟩
theorem av_k {f : Flds} {cs : Bs} {w : Tok} {ws : List Tok} {g : Flds} (h : addVals f (107 :: cs) (w :: ws) = some g) : ∃ v, keepsS w.s = some v ∧ addVals { f with k := v } cs ws = some g := by
  rw [addVals, show addVal f 107 w = (keepsS w.s).map fun k => { f with k := k } from rfl] at h
  cases hn : keepsS w.s with
  | none => rw [hn] at h; cases h
  | some v => rw [hn] at h; exact ⟨v, rfl, h⟩
theorem av_t {f : Flds} {cs : Bs} {w : Tok} {ws : List Tok} {g : Flds} (h : addVals f (116 :: cs) (w :: ws) = some g) : addVals { f with t := f.t ++ [w.s] } cs ws = some g := h
theorem av_w {f : Flds} {cs : Bs} {w : Tok} {ws : List Tok} {g : Flds} (h : addVals f (119 :: cs) (w :: ws) = some g) : addVals { f with t := f.t ++ [w.s] } cs ws = some g := h
theorem av_e {f : Flds} {g : Flds} (h : addVals f [] [] = some g) : g = f := (Option.some.inj h).symm

theorem len0 {l : List Tok} (h : l.length = 0) : l = [] := List.length_eq_zero_iff.1 h
theorem len1 {l : List Tok} (h : l.length = 1) : ∃ a, l = [a] := by
  match l, h with
  | [a], _ => exact ⟨a, rfl⟩
theorem len2 {l : List Tok} (h : l.length = 2) : ∃ a b, l = [a, b] := by
  match l, h with
  | [a, b], _ => exact ⟨a, b, rfl⟩
theorem len3 {l : List Tok} (h : l.length = 3) : ∃ a b c, l = [a, b, c] := by
  match l, h with
  | [a, b, c], _ => exact ⟨a, b, c, rfl⟩
theorem kq {w : Tok} {k : List Bool} (hn : w.s ≠ []) (h : keepsS w.s = some k) : keepsQ w.s = some k := by unfold keepsQ; rw [if_neg hn, h]

/-- the two ways to a line's act are the same -/
theorem act_R {s cs : Bs} {l : List Tok} {f : Flds} (hf : formOf s = some cs) (hs : s ≠ wStore) (hl : l.length = cs.length) (hk : (List.zip cs l).all (fun p => kindOk p.1 p.2) = true) (hn : ∀ x ∈ l, x.t = false → x.s ≠ [])
    (ha : addVals ⟨[], [], []⟩ cs l = some f) : (foldR s (act0 s, 0) (cs.map shp) l).1 = actOf s f := by
  have cN : ∀ (w : Tok) (u : Act × Nat) (t : Bs), stepR t u 110 w = ({ u.1 with n := (numOf w.s).getD 0 }, u.2) := fun _ _ _ => rfl
  have word : ∀ w : Bs, s = w → s = w := fun _ h => h
  have kt : ∀ (w : Tok), kindOk 107 w = true → w.t = false := by
    intro w h
    unfold kindOk at h
    simp only [Bool.and_eq_true] at h
    cases hw : w.t with
    | false => rfl
    | true => rw [hw] at h; exact absurd h.1 (by decide)
  rw [formOf, if_neg hs] at hf
  by_cases h : s = wBegin
  · rw [if_pos h] at hf; obtain rfl := Option.some.inj hf; subst h
    obtain ⟨a, b, rfl⟩ := len2 hl
    obtain ⟨v, hv, ha⟩ := av_n ha
    obtain rfl := av_e (av_w ha)
    show Act.mk 1 ((numOf a.s).getD 0) _ _ = _
    rw [hv]; rfl
  rw [if_neg h] at hf; clear h
  by_cases h : s = wGet
  · rw [if_pos h] at hf; obtain rfl := Option.some.inj hf; subst h
    obtain ⟨a, b, rfl⟩ := len2 hl
    obtain ⟨v, hv, ha⟩ := av_n ha
    obtain rfl := av_e (av_t ha)
    show Act.mk 1 ((numOf a.s).getD 0) _ _ = _
    rw [hv]; rfl
  rw [if_neg h] at hf; clear h
  by_cases h : s = wDelete
  · rw [if_pos h] at hf; obtain rfl := Option.some.inj hf; subst h
    obtain ⟨a, b, rfl⟩ := len2 hl
    obtain ⟨v, hv, ha⟩ := av_n ha
    obtain rfl := av_e (av_t ha)
    show Act.mk 1 ((numOf a.s).getD 0) _ _ = _
    rw [hv]; rfl
  rw [if_neg h] at hf; clear h
  by_cases h : s = wPut
  · rw [if_pos h] at hf; obtain rfl := Option.some.inj hf; subst h
    obtain ⟨a, b, c, rfl⟩ := len3 hl
    obtain ⟨v, hv, ha⟩ := av_n ha
    obtain rfl := av_e (av_t (av_t ha))
    show Act.mk 1 ((numOf a.s).getD 0) _ _ = _
    rw [hv]; rfl
  rw [if_neg h] at hf; clear h
  by_cases h : s = wScan
  · rw [if_pos h] at hf; obtain rfl := Option.some.inj hf; subst h
    obtain ⟨a, b, c, rfl⟩ := len3 hl
    obtain ⟨v, hv, ha⟩ := av_n ha
    obtain rfl := av_e (av_t (av_t ha))
    show Act.mk 1 ((numOf a.s).getD 0) _ _ = _
    rw [hv]; rfl
  rw [if_neg h] at hf; clear h
  by_cases h : s = wCommit
  · rw [if_pos h] at hf; obtain rfl := Option.some.inj hf; subst h
    obtain ⟨a, rfl⟩ := len1 hl
    obtain ⟨v, hv, ha⟩ := av_n ha
    obtain rfl := av_e ha
    show Act.mk 1 ((numOf a.s).getD 0) _ _ = _
    rw [hv]; rfl
  rw [if_neg h] at hf; clear h
  by_cases h : s = wAbort
  · rw [if_pos h] at hf; obtain rfl := Option.some.inj hf; subst h
    obtain ⟨a, rfl⟩ := len1 hl
    obtain ⟨v, hv, ha⟩ := av_n ha
    obtain rfl := av_e ha
    show Act.mk 1 ((numOf a.s).getD 0) _ _ = _
    rw [hv]; rfl
  rw [if_neg h] at hf; clear h
  by_cases h : s = wStep
  · rw [if_pos h] at hf; obtain rfl := Option.some.inj hf; subst h
    obtain ⟨a, rfl⟩ := len1 hl
    obtain ⟨v, hv, ha⟩ := av_n ha
    obtain rfl := av_e ha
    show Act.mk 2 ((numOf a.s).getD 0) _ _ = _
    rw [hv]; rfl
  rw [if_neg h] at hf; clear h
  by_cases h : s = wPick
  · rw [if_pos h] at hf; obtain rfl := Option.some.inj hf; subst h
    obtain ⟨a, rfl⟩ := len1 hl
    obtain ⟨v, hv, ha⟩ := av_n ha
    obtain rfl := av_e ha
    show Act.mk 3 ((numOf a.s).getD 0) _ _ = _
    rw [hv]; rfl
  rw [if_neg h] at hf; clear h
  by_cases h : s = wRun
  · rw [if_pos h] at hf; obtain rfl := Option.some.inj hf; subst h
    obtain ⟨a, rfl⟩ := len1 hl
    obtain ⟨v, hv, ha⟩ := av_n ha
    obtain rfl := av_e ha
    show Act.mk 4 ((numOf a.s).getD 0) _ _ = _
    rw [hv]; rfl
  rw [if_neg h] at hf; clear h
  by_cases h : s = wEpoch
  · rw [if_pos h] at hf; obtain rfl := Option.some.inj hf; subst h
    obtain rfl := len0 hl
    obtain rfl := av_e ha
    rfl
  rw [if_neg h] at hf; clear h
  by_cases h : s = wSave
  · rw [if_pos h] at hf; obtain rfl := Option.some.inj hf; subst h
    obtain rfl := len0 hl
    obtain rfl := av_e ha
    rfl
  rw [if_neg h] at hf; clear h
  by_cases h : s = wForget
  · rw [if_pos h] at hf; obtain rfl := Option.some.inj hf; subst h
    obtain rfl := len0 hl
    obtain rfl := av_e ha
    rfl
  rw [if_neg h] at hf; clear h
  by_cases h : s = wAll
  · rw [if_pos h] at hf; obtain rfl := Option.some.inj hf; subst h
    obtain rfl := len0 hl
    obtain rfl := av_e ha
    rfl
  rw [if_neg h] at hf; clear h
  by_cases h : s = wRestart
  · rw [if_pos h] at hf; obtain rfl := Option.some.inj hf; subst h
    obtain rfl := len0 hl
    obtain rfl := av_e ha
    rfl
  rw [if_neg h] at hf; clear h
  by_cases h : s = wRest
  · rw [if_pos h] at hf; obtain rfl := Option.some.inj hf; subst h
    obtain rfl := len0 hl
    obtain rfl := av_e ha
    rfl
  rw [if_neg h] at hf; clear h
  by_cases h : s = wPrune
  · rw [if_pos h] at hf; obtain rfl := Option.some.inj hf; subst h
    obtain ⟨a, rfl⟩ := len1 hl
    obtain rfl := av_e (av_t ha)
    rfl
  rw [if_neg h] at hf; clear h
  by_cases h : s = wShrink
  · rw [if_pos h] at hf; obtain rfl := Option.some.inj hf; subst h
    obtain ⟨a, rfl⟩ := len1 hl
    obtain rfl := av_e (av_t ha)
    rfl
  rw [if_neg h] at hf; clear h
  by_cases h : s = wCrash
  · rw [if_pos h] at hf; obtain rfl := Option.some.inj hf; subst h
    obtain ⟨a, rfl⟩ := len1 hl
    obtain ⟨v, hv, ha⟩ := av_k ha
    obtain rfl := av_e ha
    have hat := kt a (by simpa using hk)
    have := kq (hn a (by simp) hat) hv
    show Act.mk 6 0 _ ((keepsQ a.s).getD []) = _
    rw [this]; rfl
  rw [if_neg h] at hf; clear h
  by_cases h : s = wFuse
  · rw [if_pos h] at hf; obtain rfl := Option.some.inj hf; subst h
    obtain ⟨a, b, rfl⟩ := len2 hl
    obtain ⟨v, hv, ha⟩ := av_n ha
    obtain ⟨k, hk2, ha⟩ := av_k ha
    obtain rfl := av_e ha
    have hk3 : kindOk 107 b = true := by
      simp only [List.zip_cons_cons, List.all_cons, Bool.and_eq_true] at hk; exact hk.2.1
    have := kq (hn b (by simp) (kt b hk3)) hk2
    show Act.mk 7 ((numOf a.s).getD 0) _ ((keepsQ b.s).getD []) = _
    rw [this, hv]; rfl
  rw [if_neg h] at hf
  cases hf
end Go.Gsl
