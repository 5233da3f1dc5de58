/- An act with what it names alone (plain Lean). -/
import Derived.Test.YtjfieigjicbldaaDoorGNC
import Derived.Test.YtjfieigjicbldaaDoorGVF
import Derived.Test.YtjfieigjicbldaaDoorGE
import Derived.Test.YtjfieigjicbldaaDoorGVG
namespace Go.Gsl
set_option linter.unusedVariables false
/-- a call with the fields that its kind names -/
def bareC (c : Call) : Option Call :=
  if c.kind = 1 then some ⟨c.kind, c.level, [], [], [], []⟩
  else if c.kind = 2 then some ⟨c.kind, 0, c.key, [], [], []⟩
  else if c.kind = 4 then some ⟨c.kind, 0, c.key, [], [], []⟩
  else if c.kind = 9 then some ⟨c.kind, 0, c.key, [], [], []⟩
  else if c.kind = 10 then some ⟨c.kind, 0, c.key, [], [], []⟩
  else if c.kind = 3 then some ⟨c.kind, 0, c.key, c.value, [], []⟩
  else if c.kind = 5 then some ⟨c.kind, 0, [], [], c.low, c.high⟩
  else if c.kind = 6 then some ⟨c.kind, 0, [], [], [], []⟩
  else if c.kind = 7 then some ⟨c.kind, 0, [], [], [], []⟩
  else if c.kind = 8 then some ⟨c.kind, 0, [], [], [], []⟩
  else if c.kind = 11 then some ⟨c.kind, 0, [], [], [], []⟩
  else if c.kind = 12 then some ⟨c.kind, 0, [], [], [], []⟩
  else none
def bareT (a : Act) : Act × Bool :=
  if a.d = 1 then match bareC a.c with
    | none => (⟨a.d, a.n, ⟨a.c.kind, 0, [], [], [], []⟩, []⟩, false)
    | some c => (⟨a.d, a.n, c, []⟩, if a.c.kind = 1 then decide (a.c.level = 1) || decide (a.c.level = 2) else decide (a.c.kind < 8) || decide (a.n = 16))
  else if a.d = 2 then (⟨a.d, a.n, noCall, []⟩, true)
  else if a.d = 3 then (⟨a.d, a.n, noCall, []⟩, true)
  else if a.d = 4 then (⟨a.d, a.n, noCall, []⟩, true)
  else if a.d = 5 then (⟨a.d, 0, noCall, []⟩, true)
  else if a.d = 8 then (⟨a.d, 0, noCall, []⟩, true)
  else if a.d = 9 then (⟨a.d, 0, noCall, []⟩, true)
  else if a.d = 6 then (⟨a.d, 0, noCall, a.k⟩, true)
  else if a.d = 7 then (⟨a.d, a.n, noCall, a.k⟩, true)
  else (⟨a.d, a.n, noCall, []⟩, false)
theorem call_iff (n kind level : Int) (key value low high : Bs) (k : List Bool) : ((bareT ⟨1, n, ⟨kind, level, key, value, low, high⟩, k⟩).2 = true ∧ (bareT ⟨1, n, ⟨kind, level, key, value, low, high⟩, k⟩).1 = ⟨1, n, ⟨kind, level, key, value, low, high⟩, k⟩) ↔
    (callT n ⟨kind, level, key, value, low, high⟩).isSome = true ∧ backC n ⟨kind, level, key, value, low, high⟩ = ⟨1, n, ⟨kind, level, key, value, low, high⟩, k⟩ := by
  by_cases h1 : kind = 1
  · subst h1
    by_cases l2 : level = 2
    · subst l2; simp [bareT, bareC, callT, backC, noCall]
    · by_cases l1 : level = 1
      · subst l1; simp [bareT, bareC, callT, backC, noCall]
      · have : ¬ 1 = level := fun g => l1 g.symm
        simp [bareT, bareC, callT, backC, noCall, l1, l2, this]
  · by_cases h2 : kind = 2
    · subst h2; simp [bareT, bareC, callT, backC, noCall]
    by_cases h3 : kind = 3
    · subst h3; simp [bareT, bareC, callT, backC, noCall]
    by_cases h4 : kind = 4
    · subst h4; simp [bareT, bareC, callT, backC, noCall]
    by_cases h5 : kind = 5
    · subst h5; simp [bareT, bareC, callT, backC, noCall]
    by_cases h6 : kind = 6
    · subst h6; simp [bareT, bareC, callT, backC, noCall]
    by_cases h7 : kind = 7
    · subst h7; simp [bareT, bareC, callT, backC, noCall]
    have hn : n = 16 ∧ (16 : Int) = n ∨ ¬ n = 16 ∧ ¬ (16 : Int) = n := by omega
    rcases hn with ⟨rfl, -⟩ | ⟨e1, e2⟩
    · by_cases h8 : kind = 8
      · subst h8; simp [bareT, bareC, callT, backC, noCall]
      by_cases h9 : kind = 9
      · subst h9; simp [bareT, bareC, callT, backC, noCall]
      by_cases h10 : kind = 10
      · subst h10; simp [bareT, bareC, callT, backC, noCall]
      by_cases h11 : kind = 11
      · subst h11; simp [bareT, bareC, callT, backC, noCall]
      by_cases h12 : kind = 12
      · subst h12; simp [bareT, bareC, callT, backC, noCall]
      simp [bareT, bareC, callT, h1, h2, h3, h4, h5, h6, h7, h8, h9, h10, h11, h12]
    · by_cases h8 : kind = 8
      · subst h8; simp [bareT, bareC, callT, backC, noCall, e1, e2]
      by_cases h9 : kind = 9
      · subst h9; simp [bareT, bareC, callT, backC, noCall, e1, e2]
      by_cases h10 : kind = 10
      · subst h10; simp [bareT, bareC, callT, backC, noCall, e1, e2]
      by_cases h11 : kind = 11
      · subst h11; simp [bareT, bareC, callT, backC, noCall, e1, e2]
      by_cases h12 : kind = 12
      · subst h12; simp [bareT, bareC, callT, backC, noCall, e1, e2]
      simp [bareT, bareC, callT, h1, h2, h3, h4, h5, h6, h7, h8, h9, h10, h11, h12]
theorem bare_iff (a : Act) : ((bareT a).2 = true ∧ (bareT a).1 = a) ↔ (actT a).isSome = true ∧ backA a = a := by
  obtain ⟨d, n, ⟨kind, level, key, value, low, high⟩, k⟩ := a
  by_cases h1 : d = 1
  · subst h1
    rw [call_iff]
    rfl
  by_cases h2 : d = 2
  · subst h2; simp [bareT, actT, backA]
  by_cases h3 : d = 3
  · subst h3; simp [bareT, actT, backA]
  by_cases h4 : d = 4
  · subst h4; simp [bareT, actT, backA]
  by_cases h5 : d = 5
  · subst h5; simp [bareT, actT, backA]
  by_cases h6 : d = 6
  · subst h6; simp [bareT, actT, backA]
  by_cases h7 : d = 7
  · subst h7; simp [bareT, actT, backA]
  by_cases h8 : d = 8
  · subst h8; simp [bareT, actT, backA]
  by_cases h9 : d = 9
  · subst h9; simp [bareT, actT, backA]
  simp [bareT, actT, h1, h2, h3, h4, h5, h6, h7, h8, h9]
theorem bare_good {a : Act} (h : bareT a = (a, true)) {l : List Tok} (hl : actT a = some l) : lineS a = some (lineT l) := by
  obtain ⟨h1, h2⟩ := (bare_iff a).1 ⟨by rw [h], by rw [h]⟩
  unfold lineS; rw [hl]; simp only; rw [if_pos h2]
theorem bare_bad {a : Act} (h : ¬ bareT a = (a, true)) : lineS a = none := by
  unfold lineS
  cases hl : actT a with
  | none => rfl
  | some l =>
    simp only
    rw [if_neg]
    intro g
    obtain ⟨h1, h2⟩ := (bare_iff a).2 ⟨by rw [hl]; rfl, g⟩
    exact h (Prod.ext h2 h1)
theorem bare_some {a : Act} (h : bareT a = (a, true)) : (actT a).isSome = true := ((bare_iff a).1 ⟨by rw [h], by rw [h]⟩).1
theorem line1 (a : Bs) : lineT [pw a] = a := by unfold lineT; simp [Lib.join_one, tokT, pw]
theorem lineN (w v : Tok) (l : List Tok) : lineT (w :: v :: l) = tokT w ++ ([32] ++ lineT (v :: l)) := lineT_cons w v l
theorem lineX (a : Bs) : lineT [tx a] = quoteS a := by unfold lineT; simp [Lib.join_one, tokT, tx]
theorem tok_pw (a : Bs) : tokT (pw a) = a := rfl
theorem tok_tx (a : Bs) : tokT (tx a) = quoteS a := rfl
end Go.Gsl

namespace Go.Gsl
set_option linter.unusedVariables false
open Go.Proofs

def decT (u : Nat) : Bs := if u = 0 then [] else Lib.decDigits u
theorem decT_step {u : Nat} (h : 0 < u) : decT u = decT (u / 10) ++ [UInt8.ofNat (48 + u % 10)] := by
  unfold decT
  rw [if_neg (by omega)]
  by_cases h1 : u < 10
  · rw [Lib.decDigits, dif_pos h1, if_pos (by omega), Nat.mod_eq_of_lt h1]; rfl
  · rw [Lib.decDigits, dif_neg h1, if_neg (by omega)]
theorem decT_len (u : Nat) : u < 10000000000000000000 → (decT u).length ≤ 20 := by
  intro h
  unfold decT
  split
  · simp
  · rw [Lib.decDigits_length]; exact Lib.nDigits_le20 u (by omega)
theorem iv_dig {u : Nat} : iv (UInt8.ofNat (48 + u % 10)) = 48 + ((u : Int) % 10) := by
  have : (UInt8.ofNat (48 + u % 10)).toNat = 48 + u % 10 := by rw [UInt8.toNat_ofNat']; omega
  unfold iv
  rw [this]
  omega
theorem wrap_neg {k : Int} (h : -9223372036854775808 ≤ k ∧ k < 0) : IntKind.u64.wrap (0 - IntKind.u64.wrap k) = (k.natAbs : Int) := by
  unfold IntKind.wrap
  simp [IntKind.min, IntKind.bits, IntKind.signed]
  omega
theorem wrap_pos {k : Int} (h : 0 < k ∧ k ≤ 9223372036854775807) : IntKind.u64.wrap k = (k.natAbs : Int) := by
  unfold IntKind.wrap
  simp [IntKind.min, IntKind.bits, IntKind.signed]
  omega
set_option maxHeartbeats 4000000 in
theorem qNum_ok (k : Int) (hk : -9223372036854775808 ≤ k ∧ k ≤ 9223372036854775807) : Spec Tryd.prog 45 [.int .i64 k] [] [] fun F v Rs' => v = .string (sB (Lib.itoa k)) ∧ Rs' = F := by
  refine spec_of Tryd.func45 rfl Tryd.ntmps45 rfl ?_
  intro w0 F
  repeat' (first | with_reducible (first | refine go1 ?_ | refine sct ?_ | refine scf ?_ | refine sgr ?_) | (with_reducible refine sc_cond (fun h => ?_) (fun h => ?_)) <;> (try (exfalso; first | contradiction | omega | exact h Iff.rfl)) | fail)
  · refine sq_ret1 Tryd.results45 ?_
    subst h
    have h0 : Lib.itoa 0 = [48] := by unfold Lib.itoa; rw [if_neg (by omega)]; exact Lib.decDigits_one (by omega)
    rw [h0]
    exact ⟨_, ⟨rfl, rfl⟩, Ent.refl _⟩
  · refine sc_set 3 (.int .u64 (k.natAbs : Int)) (by rw [wrap_neg (by omega)]) ?_
    have hi : Lib.itoa k = [45] ++ decT k.natAbs := by unfold Lib.itoa decT; rw [if_pos (by assumption), if_neg (by omega)]; rfl
    refine sc_loop (α := { x : Nat × Bs // decT x.1 ++ x.2 = decT k.natAbs ∧ x.1 ≤ 9223372036854775808 }) (fun x => [(3, .int .u64 (x.1.1 : Int)), (4, .string (sB [45])), (5, .string (sB x.1.2))]) (fun _ => F) (fun x => x.1.1) ⟨(k.natAbs, []), by simp, by simp only; omega⟩ ?_ ?_ ?_
    · repeat' (first | exact says_nil | refine says_cons rfl ?_ | refine says_cons (by simp) ?_)
    · exact Ent.refl _
    rintro ⟨⟨u, s⟩, hd, hu⟩ e
    simp only at hd hu
    simp only [List.cons_append, List.nil_append]
    have hsl : s.length ≤ 20 := by
      have h1 : (decT u ++ s).length ≤ 20 := by rw [hd]; exact decT_len _ (by omega)
      rw [List.length_append] at h1
      omega
    by_cases hu0 : 0 < u
    · have hst := decT_step hu0
      have hq : IntKind.u64.wrap ((u : Int).tdiv 10) = ((u / 10 : Nat) : Int) := by
        rw [Int.tdiv_eq_ediv_of_nonneg (by omega), wrap_u64 (by omega)]; omega
      have hqv : Value.int .u64 (IntKind.u64.wrap ((u : Int).tdiv 10)) = .int .u64 ((u / 10 : Nat) : Int) := by rw [hq]
      have hbs : ∀ (b : Nat), Reads (pts b (.cells [Value.int .u8 (48 + (u : Int) % 10)].toArray 5 (0, 0))) (some ⟨b, 0, none⟩) ([48 + (u : Int) % 10].map (Value.int .u8)) := fun b => reads_pts fun j v hj => by rw [Nat.zero_add]; exact hj
      have hstr : strB [48 + (u : Int) % 10] = sB [UInt8.ofNat (48 + u % 10)] := by
        rw [← iv_dig]; exact strB_iv [UInt8.ofNat (48 + u % 10)]
      repeat' (first | with_reducible refine sw_rem_nn (by omega) ?_ | with_reducible refine sw_in (by omega) ?_ | with_reducible (first | refine go1 ?_ | refine sct ?_ | refine scf ?_ | refine sgr ?_) | with_reducible refine sw_build1 fun b7 => ?_ | (with_reducible refine sc_cond (fun h => ?_) (fun h => ?_)) <;> (try (exfalso; first | contradiction | omega | exact h Iff.rfl)) | fail)
      refine sw_bytes [48 + (u : Int) % 10] (fun w hw => Reads.sat (k := b7) (F := F) (hbs b7) hw) rfl ?_
      rw [hstr]
      repeat' (first | with_reducible (first | refine go1 ?_ | refine sct ?_ | refine scf ?_ | refine sgr ?_) | with_reducible refine sw_op (h := runop_sadd (by simp only [List.length_append, List.length_cons, List.length_nil]; omega)) ?_ | with_reducible refine sw_op_as (h := runop_quo (by omega)) hqv ?_ | fail)
      refine sq_round ⟨(u / 10, [UInt8.ofNat (48 + u % 10)] ++ s), by simp only; rw [← List.append_assoc, ← hst]; exact hd, by simp only; omega⟩ (by show u / 10 < u; omega) ?_ ?_
      · repeat' (first | exact says_nil | refine says_cons rfl ?_ | refine says_cons (by simp) ?_)
      · repeat' (first | with_reducible exact Ent.refl _ | with_reducible refine Ent.take_eq ?_ ?_ | rfl | with_reducible refine Ent.oR ?_ | with_reducible refine Ent.trans (oR.drop _ _ _) ?_ | with_reducible refine Ent.trans (Ent.drop _ _) ?_)
    · have hu1 : u = 0 := by omega
      subst hu1
      have hs : s = decT k.natAbs := by rw [← hd]; rfl
      repeat' (first | with_reducible (first | refine go1 ?_ | refine sct ?_ | refine scf ?_ | refine sgr ?_) | with_reducible refine sw_op (h := runop_sadd (by simp only [List.length_append, List.length_cons, List.length_nil]; omega)) ?_ | (with_reducible refine sc_cond (fun h => ?_) (fun h => ?_)) <;> (try (exfalso; first | contradiction | omega | exact h Iff.rfl)) | fail)
      refine sq_ret1 Tryd.results45 ?_
      refine ⟨_, ⟨by rw [hi, hs], rfl⟩, Ent.refl _⟩
  · refine sc_set 3 (.int .u64 (k.natAbs : Int)) (by rw [wrap_pos (by omega)]) ?_
    have hi : Lib.itoa k = [] ++ decT k.natAbs := by
      unfold Lib.itoa decT; rw [if_neg (by assumption), if_neg (by omega)]
      rw [show k.toNat = k.natAbs by omega]; rfl
    refine sc_loop (α := { x : Nat × Bs // decT x.1 ++ x.2 = decT k.natAbs ∧ x.1 ≤ 9223372036854775808 }) (fun x => [(3, .int .u64 (x.1.1 : Int)), (4, .string (sB [])), (5, .string (sB x.1.2))]) (fun _ => F) (fun x => x.1.1) ⟨(k.natAbs, []), by simp, by simp only; omega⟩ ?_ ?_ ?_
    · repeat' (first | exact says_nil | refine says_cons rfl ?_ | refine says_cons (by simp) ?_)
    · exact Ent.refl _
    rintro ⟨⟨u, s⟩, hd, hu⟩ e
    simp only at hd hu
    simp only [List.cons_append, List.nil_append]
    have hsl : s.length ≤ 20 := by
      have h1 : (decT u ++ s).length ≤ 20 := by rw [hd]; exact decT_len _ (by omega)
      rw [List.length_append] at h1
      omega
    by_cases hu0 : 0 < u
    · have hst := decT_step hu0
      have hq : IntKind.u64.wrap ((u : Int).tdiv 10) = ((u / 10 : Nat) : Int) := by
        rw [Int.tdiv_eq_ediv_of_nonneg (by omega), wrap_u64 (by omega)]; omega
      have hqv : Value.int .u64 (IntKind.u64.wrap ((u : Int).tdiv 10)) = .int .u64 ((u / 10 : Nat) : Int) := by rw [hq]
      have hbs : ∀ (b : Nat), Reads (pts b (.cells [Value.int .u8 (48 + (u : Int) % 10)].toArray 5 (0, 0))) (some ⟨b, 0, none⟩) ([48 + (u : Int) % 10].map (Value.int .u8)) := fun b => reads_pts fun j v hj => by rw [Nat.zero_add]; exact hj
      have hstr : strB [48 + (u : Int) % 10] = sB [UInt8.ofNat (48 + u % 10)] := by
        rw [← iv_dig]; exact strB_iv [UInt8.ofNat (48 + u % 10)]
      repeat' (first | with_reducible refine sw_rem_nn (by omega) ?_ | with_reducible refine sw_in (by omega) ?_ | with_reducible (first | refine go1 ?_ | refine sct ?_ | refine scf ?_ | refine sgr ?_) | with_reducible refine sw_build1 fun b7 => ?_ | (with_reducible refine sc_cond (fun h => ?_) (fun h => ?_)) <;> (try (exfalso; first | contradiction | omega | exact h Iff.rfl)) | fail)
      refine sw_bytes [48 + (u : Int) % 10] (fun w hw => Reads.sat (k := b7) (F := F) (hbs b7) hw) rfl ?_
      rw [hstr]
      repeat' (first | with_reducible (first | refine go1 ?_ | refine sct ?_ | refine scf ?_ | refine sgr ?_) | with_reducible refine sw_op (h := runop_sadd (by simp only [List.length_append, List.length_cons, List.length_nil]; omega)) ?_ | with_reducible refine sw_op_as (h := runop_quo (by omega)) hqv ?_ | fail)
      refine sq_round ⟨(u / 10, [UInt8.ofNat (48 + u % 10)] ++ s), by simp only; rw [← List.append_assoc, ← hst]; exact hd, by simp only; omega⟩ (by show u / 10 < u; omega) ?_ ?_
      · repeat' (first | exact says_nil | refine says_cons rfl ?_ | refine says_cons (by simp) ?_)
      · repeat' (first | with_reducible exact Ent.refl _ | with_reducible refine Ent.take_eq ?_ ?_ | rfl | with_reducible refine Ent.oR ?_ | with_reducible refine Ent.trans (oR.drop _ _ _) ?_ | with_reducible refine Ent.trans (Ent.drop _ _) ?_)
    · have hu1 : u = 0 := by omega
      subst hu1
      have hs : s = decT k.natAbs := by rw [← hd]; rfl
      repeat' (first | with_reducible (first | refine go1 ?_ | refine sct ?_ | refine scf ?_ | refine sgr ?_) | with_reducible refine sw_op (h := runop_sadd (by simp only [List.length_append, List.length_cons, List.length_nil]; omega)) ?_ | (with_reducible refine sc_cond (fun h => ?_) (fun h => ?_)) <;> (try (exfalso; first | contradiction | omega | exact h Iff.rfl)) | fail)
      refine sq_ret1 Tryd.results45 ?_
      refine ⟨_, ⟨by rw [hi, hs], rfl⟩, Ent.refl _⟩
end Go.Gsl

namespace Go.Gsl
set_option linter.unusedVariables false
open Go.Proofs

set_option maxHeartbeats 2000000 in
theorem qKTxt_ok (K : Nat) (r : HProp) (kv : Value) (k : List Bool) (hk : RdK r kv k) (hl : k.length ≤ 268435456) : Spec Tryd.prog 48 [kv] [K] [r]
    fun F v Rs' => v = .string (sB (kTxt k)) ∧ Rs' = (K, r) :: F := by
  obtain ⟨a, c, rfl, ha, hra⟩ := hk
  refine spec_of Tryd.func48 rfl Tryd.ntmps48 rfl ?_
  intro w0 F
  repeat' (first | with_reducible (first | refine go1 ?_ | refine sct ?_ | refine scf ?_ | refine sgr ?_) | (with_reducible refine sc_cond (fun h => ?_) (fun h => ?_)) <;> (try (exfalso; first | contradiction | omega | exact h Iff.rfl)) | fail)
  · refine sq_ret1 Tryd.results48 ?_
    have hk0 : k = [] := List.length_eq_zero_iff.1 (by omega)
    subst hk0
    exact ⟨_, ⟨rfl, rfl⟩, Ent.refl _⟩
  have hk0 : k ≠ [] := fun g => h (by rw [g]; rfl)
  rw [kTxt_ne hk0]
  refine sc_loop (α := { i : Nat // i ≤ k.length })
    (fun x => [(0, .slice a k.length c), (4, .int .i64 (x.1 : Int)), (3, .string (sB ((k.take x.1).map kC)))])
    (fun x => (K, r) :: F) (fun x => k.length - x.1) ⟨0, Nat.zero_le _⟩ ?_ ?_ ?_
  · repeat' (first | exact says_nil | refine says_cons rfl ?_ | refine says_cons (by simp) ?_)
  · exact Ent.refl _
  rintro ⟨i, hi⟩ e
  simp only [List.cons_append, List.nil_append]
  have hal : ((k.take i).map kC).length ≤ k.length := by rw [List.length_map, List.length_take]; omega
  by_cases hil : i < k.length
  · obtain ⟨b, o', rfl⟩ := ha (by omega)
    have h1 := boolC_at (getD_some false hil)
    have hst : (k.take (i + 1)).map kC = (k.take i).map kC ++ [kC (k.getD i false)] := by rw [List.take_add_one, getD_some false hil]; simp
    generalize k.getD i false = u at *
    repeat' (first | with_reducible refine sw_in (by omega) ?_ | with_reducible (first | refine go1 ?_ | refine sct ?_ | refine scf ?_ | refine sgr ?_) | with_reducible refine sw_indexN i ⟨rfl, by omega⟩ ?_ | with_reducible refine sw_op (h := runop_load_rdS K i (.bool u) hra h1 (by omega)) ?_ | with_reducible refine sw_op (h := runop_sadd (by simp only [List.length_append, List.length_cons, List.length_nil]; omega)) ?_ | (with_reducible refine sc_cond (fun h => ?_) (fun h => ?_)) <;> (try (exfalso; first | contradiction | omega | exact h Iff.rfl)) | fail)
    · have hu : kC u = 49 := by rw [show u = true by simpa using h]; rfl
      rw [hu] at hst
      refine sq_round ⟨i + 1, by omega⟩ (by show k.length - (i + 1) < k.length - i; omega) ?_ ?_
      · show says _ [(0, .slice (some ⟨b, o', none⟩) k.length c), (4, .int .i64 ((i + 1 : Nat) : Int)), (3, .string (sB ((k.take (i + 1)).map kC)))]
        rw [hst]
        repeat' (first | exact says_nil | refine says_cons rfl ?_ | refine says_cons (by simp) ?_)
      · exact Ent.refl _
    · have hu : kC u = 48 := by rw [show u = false by simpa using h]; rfl
      rw [hu] at hst
      refine sq_round ⟨i + 1, by omega⟩ (by show k.length - (i + 1) < k.length - i; omega) ?_ ?_
      · show says _ [(0, .slice (some ⟨b, o', none⟩) k.length c), (4, .int .i64 ((i + 1 : Nat) : Int)), (3, .string (sB ((k.take (i + 1)).map kC)))]
        rw [hst]
        repeat' (first | exact says_nil | refine says_cons rfl ?_ | refine says_cons (by simp) ?_)
      · exact Ent.refl _
  · have hie : i = k.length := by omega
    subst hie
    repeat' (first | with_reducible (first | refine go1 ?_ | refine sct ?_ | refine scf ?_ | refine sgr ?_) | (with_reducible refine sc_cond (fun h => ?_) (fun h => ?_)) <;> (try (exfalso; first | contradiction | omega | exact h Iff.rfl)) | fail)
    refine sq_ret1 Tryd.results48 ?_
    refine ⟨_, ⟨by rw [List.take_length], rfl⟩, Ent.refl _⟩

theorem rd6 (b : Nat) (cs : List Value) : Reads (pts b (.cells cs.toArray 46 (0, 0))) (some ⟨b, 0, none⟩) cs := reads_pts fun j v hj => by rw [Nat.zero_add]; exact hj
set_option maxHeartbeats 8000000 in
theorem qBare_ok (K : Nat) (r : HProp) (kv : Value) (d n kind level : Int) (key value low high : Bs) (k : List Bool) (hk : RdK r kv k) : Spec Tryd.prog 46 [.agg ([.int .i64 d, .int .i64 n, .int .i64 kind, .int .i64 level, .string (sB key), .string (sB value), .string (sB low), .string (sB high), kv] : List Value).toArray] [K] [r]
    fun F v Rs' => ∃ b ok kv', bareT ⟨d, n, ⟨kind, level, key, value, low, high⟩, k⟩ = (b, ok) ∧ v = .tuple #[.agg (actC b kv').toArray, .bool ok] ∧ RdK r kv' b.k ∧ Rs' = (K, r) :: F := by
  obtain ⟨ka, kc, rfl, hka, hkr⟩ := hk
  have hk0 : RdK r (.slice none 0 0) [] := ⟨none, 0, rfl, fun h => by simp at h, reads_nil _ _⟩
  have hkk : RdK r (.slice ka k.length kc) k := ⟨ka, kc, rfl, hka, hkr⟩
  have hcl : ([.int .i64 kind, .int .i64 level, .string (sB key), .string (sB value), .string (sB low), .string (sB high)] : List Value).length = 6 := rfl
  refine spec_of Tryd.func46 rfl Tryd.ntmps46 rfl ?_
  intro w0 F
  repeat' (first | with_reducible (first | refine go1 ?_ | refine sct ?_ | refine scf ?_ | refine sgr ?_) | with_reducible refine sw_box fun b1 => ?_ | fail)
  with_reducible refine sw_alloc fun b2 => ?_
  repeat' (first | with_reducible (first | refine go1 ?_ | refine sct ?_ | refine scf ?_ | refine sgr ?_) | with_reducible refine sw_build ([.int .i64 d, .int .i64 n, .int .i64 0, .int .i64 0, .string (sB []), .string (sB []), .string (sB []), .string (sB []), .slice none 0 0] : List Value) (by first | kernel_rfl | rfl) ?_ | fail)
  with_reducible refine sw_alloc fun b4 => ?_
  repeat' (first | with_reducible (first | refine go1 ?_ | refine sct ?_ | refine scf ?_ | refine sgr ?_) | with_reducible refine sw_store_agg ?_ | with_reducible refine sw_load_aggR b1 2 [.int .i64 kind, .int .i64 level, .string (sB key), .string (sB value), .string (sB low), .string (sB high)] (rd6 b1 _) hcl rfl rfl ?_ | fail)
  with_reducible refine sw_alloc fun b5 => ?_
  repeat' (first | with_reducible refine sc_mid (α := { u : Unit // d = 1 }) (fun u => [(1, .pointer (some ⟨b1, 0, none⟩)), (2, .pointer (some ⟨b2, 0, none⟩)), (4, .pointer (some ⟨b4, 0, none⟩)), (5, .pointer (some ⟨b5, 0, none⟩))]) (fun u => (b4, pts b4 (.cells ([.int .i64 d, .int .i64 n, .int .i64 kind, .int .i64 0, .string (sB []), .string (sB []), .string (sB []), .string (sB []), .slice none 0 0] : List Value).toArray 46 (0, 0))) :: (b5, pts b5 (.cells [.int .i64 kind, .int .i64 level, .string (sB key), .string (sB value), .string (sB low), .string (sB high)].toArray 44 (0, 0))) :: (b2, pts b2 (.cells (actC ⟨0, 0, noCall, []⟩ (.slice none 0 0)).toArray 46 (0, 0))) :: (b1, pts b1 (.cells ([.int .i64 d, .int .i64 n, .int .i64 kind, .int .i64 level, .string (sB key), .string (sB value), .string (sB low), .string (sB high), .slice ka k.length kc] : List Value).toArray 46 (0, 0))) :: (K, r) :: F) ?_ ?_ | with_reducible (first | refine go1 ?_ | refine sct ?_ | refine scf ?_ | refine sgr ?_) | with_reducible refine sw_store_agg ?_ | with_reducible refine sw_store ?_ | (with_reducible refine sc_cond (fun h => ?_) (fun h => ?_)) <;> (try (exfalso; first | contradiction | omega | exact h Iff.rfl)) | fail)
  · refine sq_mid ⟨(), by assumption⟩ ?_ ?_
    · repeat' (first | exact says_nil | refine says_cons rfl ?_ | refine says_cons (by simp) ?_)
    · repeat' (first | with_reducible exact Ent.refl _ | with_reducible refine Ent.take_eq ?_ ?_ | rfl | with_reducible refine Ent.oR ?_ | with_reducible refine Ent.trans (oR.drop _ _ _) ?_ | with_reducible refine Ent.trans (Ent.drop _ _) ?_)
  · refine sq_resAT Tryd.results46 (by first | exact .inl rfl | exact .inr rfl) rfl ?_
    refine ⟨_, ⟨⟨d, n, noCall, []⟩, true, .slice none 0 0, by unfold bareT; simp only; (repeat (first | rw [if_pos (by assumption)] | rw [if_neg (by assumption)])), rfl, hk0, rfl⟩, ?_⟩
    repeat' (first | with_reducible exact Ent.refl _ | with_reducible refine Ent.take_eq ?_ ?_ | rfl | with_reducible refine Ent.oR ?_ | with_reducible refine Ent.trans (oR.drop _ _ _) ?_ | with_reducible refine Ent.trans (Ent.drop _ _) ?_)
  · refine sq_resAT Tryd.results46 (by first | exact .inl rfl | exact .inr rfl) rfl ?_
    refine ⟨_, ⟨⟨d, n, noCall, []⟩, true, .slice none 0 0, by unfold bareT; simp only; (repeat (first | rw [if_pos (by assumption)] | rw [if_neg (by assumption)])), rfl, hk0, rfl⟩, ?_⟩
    repeat' (first | with_reducible exact Ent.refl _ | with_reducible refine Ent.take_eq ?_ ?_ | rfl | with_reducible refine Ent.oR ?_ | with_reducible refine Ent.trans (oR.drop _ _ _) ?_ | with_reducible refine Ent.trans (Ent.drop _ _) ?_)
  · refine sq_resAT Tryd.results46 (by first | exact .inl rfl | exact .inr rfl) rfl ?_
    refine ⟨_, ⟨⟨d, n, noCall, []⟩, true, .slice none 0 0, by unfold bareT; simp only; (repeat (first | rw [if_pos (by assumption)] | rw [if_neg (by assumption)])), rfl, hk0, rfl⟩, ?_⟩
    repeat' (first | with_reducible exact Ent.refl _ | with_reducible refine Ent.take_eq ?_ ?_ | rfl | with_reducible refine Ent.oR ?_ | with_reducible refine Ent.trans (oR.drop _ _ _) ?_ | with_reducible refine Ent.trans (Ent.drop _ _) ?_)
  · refine sq_resAT Tryd.results46 (by first | exact .inl rfl | exact .inr rfl) rfl ?_
    refine ⟨_, ⟨⟨d, 0, noCall, []⟩, true, .slice none 0 0, by unfold bareT; simp only; (repeat (first | rw [if_pos (by assumption)] | rw [if_neg (by assumption)])), rfl, hk0, rfl⟩, ?_⟩
    repeat' (first | with_reducible exact Ent.refl _ | with_reducible refine Ent.take_eq ?_ ?_ | rfl | with_reducible refine Ent.oR ?_ | with_reducible refine Ent.trans (oR.drop _ _ _) ?_ | with_reducible refine Ent.trans (Ent.drop _ _) ?_)
  · refine sq_resAT Tryd.results46 (by first | exact .inl rfl | exact .inr rfl) rfl ?_
    refine ⟨_, ⟨⟨d, 0, noCall, []⟩, true, .slice none 0 0, by unfold bareT; simp only; (repeat (first | rw [if_pos (by assumption)] | rw [if_neg (by assumption)])), rfl, hk0, rfl⟩, ?_⟩
    repeat' (first | with_reducible exact Ent.refl _ | with_reducible refine Ent.take_eq ?_ ?_ | rfl | with_reducible refine Ent.oR ?_ | with_reducible refine Ent.trans (oR.drop _ _ _) ?_ | with_reducible refine Ent.trans (Ent.drop _ _) ?_)
  · refine sq_resAT Tryd.results46 (by first | exact .inl rfl | exact .inr rfl) rfl ?_
    refine ⟨_, ⟨⟨d, 0, noCall, []⟩, true, .slice none 0 0, by unfold bareT; simp only; (repeat (first | rw [if_pos (by assumption)] | rw [if_neg (by assumption)])), rfl, hk0, rfl⟩, ?_⟩
    repeat' (first | with_reducible exact Ent.refl _ | with_reducible refine Ent.take_eq ?_ ?_ | rfl | with_reducible refine Ent.oR ?_ | with_reducible refine Ent.trans (oR.drop _ _ _) ?_ | with_reducible refine Ent.trans (Ent.drop _ _) ?_)
  · refine sq_resAT Tryd.results46 (by first | exact .inl rfl | exact .inr rfl) rfl ?_
    refine ⟨_, ⟨⟨d, 0, noCall, k⟩, true, .slice ka k.length kc, by unfold bareT; simp only; (repeat (first | rw [if_pos (by assumption)] | rw [if_neg (by assumption)])), rfl, hkk, rfl⟩, ?_⟩
    repeat' (first | with_reducible exact Ent.refl _ | with_reducible refine Ent.take_eq ?_ ?_ | rfl | with_reducible refine Ent.oR ?_ | with_reducible refine Ent.trans (oR.drop _ _ _) ?_ | with_reducible refine Ent.trans (Ent.drop _ _) ?_)
  · refine sq_resAT Tryd.results46 (by first | exact .inl rfl | exact .inr rfl) rfl ?_
    refine ⟨_, ⟨⟨d, n, noCall, k⟩, true, .slice ka k.length kc, by unfold bareT; simp only; (repeat (first | rw [if_pos (by assumption)] | rw [if_neg (by assumption)])), rfl, hkk, rfl⟩, ?_⟩
    repeat' (first | with_reducible exact Ent.refl _ | with_reducible refine Ent.take_eq ?_ ?_ | rfl | with_reducible refine Ent.oR ?_ | with_reducible refine Ent.trans (oR.drop _ _ _) ?_ | with_reducible refine Ent.trans (Ent.drop _ _) ?_)
  · refine sq_resAT Tryd.results46 (by first | exact .inl rfl | exact .inr rfl) rfl ?_
    refine ⟨_, ⟨⟨d, n, noCall, []⟩, false, .slice none 0 0, by unfold bareT; simp only; (repeat (first | rw [if_pos (by assumption)] | rw [if_neg (by assumption)])), rfl, hk0, rfl⟩, ?_⟩
    repeat' (first | with_reducible exact Ent.refl _ | with_reducible refine Ent.take_eq ?_ ?_ | rfl | with_reducible refine Ent.oR ?_ | with_reducible refine Ent.trans (oR.drop _ _ _) ?_ | with_reducible refine Ent.trans (Ent.drop _ _) ?_)
  rintro ⟨_, hd⟩ e0
  simp only [List.cons_append, List.nil_append]
  repeat' (first | with_reducible refine sc_mid (α := { c : Call // bareC ⟨kind, level, key, value, low, high⟩ = some c ∧ ¬ kind = 1 }) (fun c => [(1, .pointer (some ⟨b1, 0, none⟩)), (2, .pointer (some ⟨b2, 0, none⟩)), (4, .pointer (some ⟨b4, 0, none⟩)), (5, .pointer (some ⟨b5, 0, none⟩))]) (fun c => (b4, pts b4 (.cells ([.int .i64 d, .int .i64 n, .int .i64 c.1.kind, .int .i64 c.1.level, .string (sB c.1.key), .string (sB c.1.value), .string (sB c.1.low), .string (sB c.1.high), .slice none 0 0] : List Value).toArray 46 (0, 0))) :: (b5, pts b5 (.cells [.int .i64 kind, .int .i64 level, .string (sB key), .string (sB value), .string (sB low), .string (sB high)].toArray 44 (0, 0))) :: (b2, pts b2 (.cells (actC ⟨0, 0, noCall, []⟩ (.slice none 0 0)).toArray 46 (0, 0))) :: (b1, pts b1 (.cells ([.int .i64 d, .int .i64 n, .int .i64 kind, .int .i64 level, .string (sB key), .string (sB value), .string (sB low), .string (sB high), .slice ka k.length kc] : List Value).toArray 46 (0, 0))) :: (K, r) :: F) ?_ ?_ | with_reducible (first | refine go1 ?_ | refine sct ?_ | refine scf ?_ | refine sgr ?_) | with_reducible refine sw_loadPart [.string (sB low), .string (sB high)] rfl rfl ?_ | with_reducible refine sw_storePart [.int .i64 d, .int .i64 n, .int .i64 kind, .int .i64 0, .string (sB []), .string (sB []), .string (sB low), .string (sB high), .slice none 0 0] (by simp) rfl ?_ | with_reducible refine sw_store ?_ | with_reducible refine sw_store_agg ?_ | (with_reducible refine sc_cond (fun h => ?_) (fun h => ?_)) <;> (try (exfalso; first | contradiction | omega | exact h Iff.rfl)) | fail)
  · refine sc_lin ([(b4, pts b4 (.cells ([.int .i64 d, .int .i64 n, .int .i64 kind, .int .i64 level, .string (sB []), .string (sB []), .string (sB []), .string (sB []), .slice none 0 0] : List Value).toArray 46 (0, 0))), (b5, pts b5 (.cells [.int .i64 kind, .int .i64 level, .string (sB key), .string (sB value), .string (sB low), .string (sB high)].toArray 44 (0, 0)))]) (llp 0 (llp 1 (llp 2 (llp 3 (llp 4 (llp 5 (llp 6 (llp 7 (llp 8 (lle 9 (llp 10 ll0))))))))))) (by kernel_rfl) rfl (by kernel_rfl) ?_
    all_goals (iterate 5 refine go1l ?_)
    all_goals (first | refine go1l ?_ | ((refine sl_split 59 (fun h => ?_) (fun h => ?_)) <;> (try (exfalso; first | contradiction | omega | exact h Iff.rfl)) <;> refine go1l ?_))
    all_goals (first | refine go1l ?_ | ((refine sl_split 59 (fun h => ?_) (fun h => ?_)) <;> (try (exfalso; first | contradiction | omega | exact h Iff.rfl)) <;> refine go1l ?_))
    all_goals (first | refine go1l ?_ | ((refine sl_split 59 (fun h => ?_) (fun h => ?_)) <;> (try (exfalso; first | contradiction | omega | exact h Iff.rfl)) <;> refine go1l ?_))
    all_goals (first | refine go1l ?_ | ((refine sl_split 59 (fun h => ?_) (fun h => ?_)) <;> (try (exfalso; first | contradiction | omega | exact h Iff.rfl)) <;> refine go1l ?_))
    all_goals refine sl_eff ?_
    all_goals (repeat' (first | with_reducible (first | refine go1 ?_ | refine sct ?_ | refine scf ?_ | refine sgr ?_) | with_reducible refine sw_store_agg ?_ | with_reducible refine sl_back ?_ | fail))
    all_goals refine go1l ?_
    all_goals refine sl_done ?_
    all_goals (repeat' (first | with_reducible (first | refine go1 ?_ | refine sct ?_ | refine scf ?_ | refine sgr ?_) | fail))
    all_goals (refine sq_resAT Tryd.results46 (by first | exact .inl rfl | exact .inr rfl) rfl ?_)
    · refine ⟨_, ⟨⟨d, n, ⟨kind, level, [], [], [], []⟩, []⟩, true, .slice none 0 0, by unfold bareT bareC; simp only; (repeat (first | rw [if_pos (by assumption)] | rw [if_neg (by assumption)])); rw [decide_eq_true (by assumption)]; rfl, rfl, hk0, rfl⟩, ?_⟩
      repeat' (first | with_reducible exact Ent.refl _ | with_reducible refine Ent.take_eq ?_ ?_ | rfl | with_reducible refine Ent.oR ?_ | with_reducible refine Ent.trans (oR.drop _ _ _) ?_ | with_reducible refine Ent.trans (Ent.drop _ _) ?_)
    · refine ⟨_, ⟨⟨d, n, ⟨kind, level, [], [], [], []⟩, []⟩, decide (level = 2), .slice none 0 0, by unfold bareT bareC; simp only; (repeat (first | rw [if_pos (by assumption)] | rw [if_neg (by assumption)])); rw [decide_eq_false (by assumption)]; rfl, rfl, hk0, rfl⟩, ?_⟩
      repeat' (first | with_reducible exact Ent.refl _ | with_reducible refine Ent.take_eq ?_ ?_ | rfl | with_reducible refine Ent.oR ?_ | with_reducible refine Ent.trans (oR.drop _ _ _) ?_ | with_reducible refine Ent.trans (Ent.drop _ _) ?_)
  · refine sq_mid ⟨⟨kind, 0, key, [], [], []⟩, by unfold bareC; simp only; (repeat (first | rw [if_pos (by assumption)] | rw [if_neg (by assumption)])), by assumption⟩ ?_ ?_
    · repeat' (first | exact says_nil | refine says_cons rfl ?_ | refine says_cons (by simp) ?_)
    · show Ent _ ((b4, pts b4 (.cells ([.int .i64 d, .int .i64 n, .int .i64 kind, .int .i64 0, .string (sB key), .string (sB []), .string (sB []), .string (sB []), .slice none 0 0] : List Value).toArray 46 (0, 0))) :: (b5, pts b5 (.cells [.int .i64 kind, .int .i64 level, .string (sB key), .string (sB value), .string (sB low), .string (sB high)].toArray 44 (0, 0))) :: (b2, pts b2 (.cells (actC ⟨0, 0, noCall, []⟩ (.slice none 0 0)).toArray 46 (0, 0))) :: (b1, pts b1 (.cells ([.int .i64 d, .int .i64 n, .int .i64 kind, .int .i64 level, .string (sB key), .string (sB value), .string (sB low), .string (sB high), .slice ka k.length kc] : List Value).toArray 46 (0, 0))) :: (K, r) :: F)
      repeat' (first | with_reducible exact Ent.refl _ | with_reducible refine Ent.take_eq ?_ ?_ | rfl | with_reducible refine Ent.oR ?_ | with_reducible refine Ent.trans (oR.drop _ _ _) ?_ | with_reducible refine Ent.trans (Ent.drop _ _) ?_)
  · refine sq_mid ⟨⟨kind, 0, key, [], [], []⟩, by unfold bareC; simp only; (repeat (first | rw [if_pos (by assumption)] | rw [if_neg (by assumption)])), by assumption⟩ ?_ ?_
    · repeat' (first | exact says_nil | refine says_cons rfl ?_ | refine says_cons (by simp) ?_)
    · show Ent _ ((b4, pts b4 (.cells ([.int .i64 d, .int .i64 n, .int .i64 kind, .int .i64 0, .string (sB key), .string (sB []), .string (sB []), .string (sB []), .slice none 0 0] : List Value).toArray 46 (0, 0))) :: (b5, pts b5 (.cells [.int .i64 kind, .int .i64 level, .string (sB key), .string (sB value), .string (sB low), .string (sB high)].toArray 44 (0, 0))) :: (b2, pts b2 (.cells (actC ⟨0, 0, noCall, []⟩ (.slice none 0 0)).toArray 46 (0, 0))) :: (b1, pts b1 (.cells ([.int .i64 d, .int .i64 n, .int .i64 kind, .int .i64 level, .string (sB key), .string (sB value), .string (sB low), .string (sB high), .slice ka k.length kc] : List Value).toArray 46 (0, 0))) :: (K, r) :: F)
      repeat' (first | with_reducible exact Ent.refl _ | with_reducible refine Ent.take_eq ?_ ?_ | rfl | with_reducible refine Ent.oR ?_ | with_reducible refine Ent.trans (oR.drop _ _ _) ?_ | with_reducible refine Ent.trans (Ent.drop _ _) ?_)
  · refine sq_mid ⟨⟨kind, 0, key, [], [], []⟩, by unfold bareC; simp only; (repeat (first | rw [if_pos (by assumption)] | rw [if_neg (by assumption)])), by assumption⟩ ?_ ?_
    · repeat' (first | exact says_nil | refine says_cons rfl ?_ | refine says_cons (by simp) ?_)
    · show Ent _ ((b4, pts b4 (.cells ([.int .i64 d, .int .i64 n, .int .i64 kind, .int .i64 0, .string (sB key), .string (sB []), .string (sB []), .string (sB []), .slice none 0 0] : List Value).toArray 46 (0, 0))) :: (b5, pts b5 (.cells [.int .i64 kind, .int .i64 level, .string (sB key), .string (sB value), .string (sB low), .string (sB high)].toArray 44 (0, 0))) :: (b2, pts b2 (.cells (actC ⟨0, 0, noCall, []⟩ (.slice none 0 0)).toArray 46 (0, 0))) :: (b1, pts b1 (.cells ([.int .i64 d, .int .i64 n, .int .i64 kind, .int .i64 level, .string (sB key), .string (sB value), .string (sB low), .string (sB high), .slice ka k.length kc] : List Value).toArray 46 (0, 0))) :: (K, r) :: F)
      repeat' (first | with_reducible exact Ent.refl _ | with_reducible refine Ent.take_eq ?_ ?_ | rfl | with_reducible refine Ent.oR ?_ | with_reducible refine Ent.trans (oR.drop _ _ _) ?_ | with_reducible refine Ent.trans (Ent.drop _ _) ?_)
  · refine sq_mid ⟨⟨kind, 0, key, [], [], []⟩, by unfold bareC; simp only; (repeat (first | rw [if_pos (by assumption)] | rw [if_neg (by assumption)])), by assumption⟩ ?_ ?_
    · repeat' (first | exact says_nil | refine says_cons rfl ?_ | refine says_cons (by simp) ?_)
    · show Ent _ ((b4, pts b4 (.cells ([.int .i64 d, .int .i64 n, .int .i64 kind, .int .i64 0, .string (sB key), .string (sB []), .string (sB []), .string (sB []), .slice none 0 0] : List Value).toArray 46 (0, 0))) :: (b5, pts b5 (.cells [.int .i64 kind, .int .i64 level, .string (sB key), .string (sB value), .string (sB low), .string (sB high)].toArray 44 (0, 0))) :: (b2, pts b2 (.cells (actC ⟨0, 0, noCall, []⟩ (.slice none 0 0)).toArray 46 (0, 0))) :: (b1, pts b1 (.cells ([.int .i64 d, .int .i64 n, .int .i64 kind, .int .i64 level, .string (sB key), .string (sB value), .string (sB low), .string (sB high), .slice ka k.length kc] : List Value).toArray 46 (0, 0))) :: (K, r) :: F)
      repeat' (first | with_reducible exact Ent.refl _ | with_reducible refine Ent.take_eq ?_ ?_ | rfl | with_reducible refine Ent.oR ?_ | with_reducible refine Ent.trans (oR.drop _ _ _) ?_ | with_reducible refine Ent.trans (Ent.drop _ _) ?_)
  · refine sq_mid ⟨⟨kind, 0, key, value, [], []⟩, by unfold bareC; simp only; (repeat (first | rw [if_pos (by assumption)] | rw [if_neg (by assumption)])), by assumption⟩ ?_ ?_
    · repeat' (first | exact says_nil | refine says_cons rfl ?_ | refine says_cons (by simp) ?_)
    · show Ent _ ((b4, pts b4 (.cells ([.int .i64 d, .int .i64 n, .int .i64 kind, .int .i64 0, .string (sB key), .string (sB value), .string (sB []), .string (sB []), .slice none 0 0] : List Value).toArray 46 (0, 0))) :: (b5, pts b5 (.cells [.int .i64 kind, .int .i64 level, .string (sB key), .string (sB value), .string (sB low), .string (sB high)].toArray 44 (0, 0))) :: (b2, pts b2 (.cells (actC ⟨0, 0, noCall, []⟩ (.slice none 0 0)).toArray 46 (0, 0))) :: (b1, pts b1 (.cells ([.int .i64 d, .int .i64 n, .int .i64 kind, .int .i64 level, .string (sB key), .string (sB value), .string (sB low), .string (sB high), .slice ka k.length kc] : List Value).toArray 46 (0, 0))) :: (K, r) :: F)
      repeat' (first | with_reducible exact Ent.refl _ | with_reducible refine Ent.take_eq ?_ ?_ | rfl | with_reducible refine Ent.oR ?_ | with_reducible refine Ent.trans (oR.drop _ _ _) ?_ | with_reducible refine Ent.trans (Ent.drop _ _) ?_)
  · refine sq_mid ⟨⟨kind, 0, [], [], low, high⟩, by unfold bareC; simp only; (repeat (first | rw [if_pos (by assumption)] | rw [if_neg (by assumption)])), by assumption⟩ ?_ ?_
    · repeat' (first | exact says_nil | refine says_cons rfl ?_ | refine says_cons (by simp) ?_)
    · show Ent _ ((b4, pts b4 (.cells ([.int .i64 d, .int .i64 n, .int .i64 kind, .int .i64 0, .string (sB []), .string (sB []), .string (sB low), .string (sB high), .slice none 0 0] : List Value).toArray 46 (0, 0))) :: (b5, pts b5 (.cells [.int .i64 kind, .int .i64 level, .string (sB key), .string (sB value), .string (sB low), .string (sB high)].toArray 44 (0, 0))) :: (b2, pts b2 (.cells (actC ⟨0, 0, noCall, []⟩ (.slice none 0 0)).toArray 46 (0, 0))) :: (b1, pts b1 (.cells ([.int .i64 d, .int .i64 n, .int .i64 kind, .int .i64 level, .string (sB key), .string (sB value), .string (sB low), .string (sB high), .slice ka k.length kc] : List Value).toArray 46 (0, 0))) :: (K, r) :: F)
      repeat' (first | with_reducible exact Ent.refl _ | with_reducible refine Ent.take_eq ?_ ?_ | rfl | with_reducible refine Ent.oR ?_ | with_reducible refine Ent.trans (oR.drop _ _ _) ?_ | with_reducible refine Ent.trans (Ent.drop _ _) ?_)
  · refine sq_mid ⟨⟨kind, 0, [], [], [], []⟩, by unfold bareC; simp only; (repeat (first | rw [if_pos (by assumption)] | rw [if_neg (by assumption)])), by assumption⟩ ?_ ?_
    · repeat' (first | exact says_nil | refine says_cons rfl ?_ | refine says_cons (by simp) ?_)
    · show Ent _ ((b4, pts b4 (.cells ([.int .i64 d, .int .i64 n, .int .i64 kind, .int .i64 0, .string (sB []), .string (sB []), .string (sB []), .string (sB []), .slice none 0 0] : List Value).toArray 46 (0, 0))) :: (b5, pts b5 (.cells [.int .i64 kind, .int .i64 level, .string (sB key), .string (sB value), .string (sB low), .string (sB high)].toArray 44 (0, 0))) :: (b2, pts b2 (.cells (actC ⟨0, 0, noCall, []⟩ (.slice none 0 0)).toArray 46 (0, 0))) :: (b1, pts b1 (.cells ([.int .i64 d, .int .i64 n, .int .i64 kind, .int .i64 level, .string (sB key), .string (sB value), .string (sB low), .string (sB high), .slice ka k.length kc] : List Value).toArray 46 (0, 0))) :: (K, r) :: F)
      repeat' (first | with_reducible exact Ent.refl _ | with_reducible refine Ent.take_eq ?_ ?_ | rfl | with_reducible refine Ent.oR ?_ | with_reducible refine Ent.trans (oR.drop _ _ _) ?_ | with_reducible refine Ent.trans (Ent.drop _ _) ?_)
  · refine sq_mid ⟨⟨kind, 0, [], [], [], []⟩, by unfold bareC; simp only; (repeat (first | rw [if_pos (by assumption)] | rw [if_neg (by assumption)])), by assumption⟩ ?_ ?_
    · repeat' (first | exact says_nil | refine says_cons rfl ?_ | refine says_cons (by simp) ?_)
    · show Ent _ ((b4, pts b4 (.cells ([.int .i64 d, .int .i64 n, .int .i64 kind, .int .i64 0, .string (sB []), .string (sB []), .string (sB []), .string (sB []), .slice none 0 0] : List Value).toArray 46 (0, 0))) :: (b5, pts b5 (.cells [.int .i64 kind, .int .i64 level, .string (sB key), .string (sB value), .string (sB low), .string (sB high)].toArray 44 (0, 0))) :: (b2, pts b2 (.cells (actC ⟨0, 0, noCall, []⟩ (.slice none 0 0)).toArray 46 (0, 0))) :: (b1, pts b1 (.cells ([.int .i64 d, .int .i64 n, .int .i64 kind, .int .i64 level, .string (sB key), .string (sB value), .string (sB low), .string (sB high), .slice ka k.length kc] : List Value).toArray 46 (0, 0))) :: (K, r) :: F)
      repeat' (first | with_reducible exact Ent.refl _ | with_reducible refine Ent.take_eq ?_ ?_ | rfl | with_reducible refine Ent.oR ?_ | with_reducible refine Ent.trans (oR.drop _ _ _) ?_ | with_reducible refine Ent.trans (Ent.drop _ _) ?_)
  · refine sq_mid ⟨⟨kind, 0, [], [], [], []⟩, by unfold bareC; simp only; (repeat (first | rw [if_pos (by assumption)] | rw [if_neg (by assumption)])), by assumption⟩ ?_ ?_
    · repeat' (first | exact says_nil | refine says_cons rfl ?_ | refine says_cons (by simp) ?_)
    · show Ent _ ((b4, pts b4 (.cells ([.int .i64 d, .int .i64 n, .int .i64 kind, .int .i64 0, .string (sB []), .string (sB []), .string (sB []), .string (sB []), .slice none 0 0] : List Value).toArray 46 (0, 0))) :: (b5, pts b5 (.cells [.int .i64 kind, .int .i64 level, .string (sB key), .string (sB value), .string (sB low), .string (sB high)].toArray 44 (0, 0))) :: (b2, pts b2 (.cells (actC ⟨0, 0, noCall, []⟩ (.slice none 0 0)).toArray 46 (0, 0))) :: (b1, pts b1 (.cells ([.int .i64 d, .int .i64 n, .int .i64 kind, .int .i64 level, .string (sB key), .string (sB value), .string (sB low), .string (sB high), .slice ka k.length kc] : List Value).toArray 46 (0, 0))) :: (K, r) :: F)
      repeat' (first | with_reducible exact Ent.refl _ | with_reducible refine Ent.take_eq ?_ ?_ | rfl | with_reducible refine Ent.oR ?_ | with_reducible refine Ent.trans (oR.drop _ _ _) ?_ | with_reducible refine Ent.trans (Ent.drop _ _) ?_)
  · refine sq_mid ⟨⟨kind, 0, [], [], [], []⟩, by unfold bareC; simp only; (repeat (first | rw [if_pos (by assumption)] | rw [if_neg (by assumption)])), by assumption⟩ ?_ ?_
    · repeat' (first | exact says_nil | refine says_cons rfl ?_ | refine says_cons (by simp) ?_)
    · show Ent _ ((b4, pts b4 (.cells ([.int .i64 d, .int .i64 n, .int .i64 kind, .int .i64 0, .string (sB []), .string (sB []), .string (sB []), .string (sB []), .slice none 0 0] : List Value).toArray 46 (0, 0))) :: (b5, pts b5 (.cells [.int .i64 kind, .int .i64 level, .string (sB key), .string (sB value), .string (sB low), .string (sB high)].toArray 44 (0, 0))) :: (b2, pts b2 (.cells (actC ⟨0, 0, noCall, []⟩ (.slice none 0 0)).toArray 46 (0, 0))) :: (b1, pts b1 (.cells ([.int .i64 d, .int .i64 n, .int .i64 kind, .int .i64 level, .string (sB key), .string (sB value), .string (sB low), .string (sB high), .slice ka k.length kc] : List Value).toArray 46 (0, 0))) :: (K, r) :: F)
      repeat' (first | with_reducible exact Ent.refl _ | with_reducible refine Ent.take_eq ?_ ?_ | rfl | with_reducible refine Ent.oR ?_ | with_reducible refine Ent.trans (oR.drop _ _ _) ?_ | with_reducible refine Ent.trans (Ent.drop _ _) ?_)
  · refine sq_mid ⟨⟨kind, 0, [], [], [], []⟩, by unfold bareC; simp only; (repeat (first | rw [if_pos (by assumption)] | rw [if_neg (by assumption)])), by assumption⟩ ?_ ?_
    · repeat' (first | exact says_nil | refine says_cons rfl ?_ | refine says_cons (by simp) ?_)
    · show Ent _ ((b4, pts b4 (.cells ([.int .i64 d, .int .i64 n, .int .i64 kind, .int .i64 0, .string (sB []), .string (sB []), .string (sB []), .string (sB []), .slice none 0 0] : List Value).toArray 46 (0, 0))) :: (b5, pts b5 (.cells [.int .i64 kind, .int .i64 level, .string (sB key), .string (sB value), .string (sB low), .string (sB high)].toArray 44 (0, 0))) :: (b2, pts b2 (.cells (actC ⟨0, 0, noCall, []⟩ (.slice none 0 0)).toArray 46 (0, 0))) :: (b1, pts b1 (.cells ([.int .i64 d, .int .i64 n, .int .i64 kind, .int .i64 level, .string (sB key), .string (sB value), .string (sB low), .string (sB high), .slice ka k.length kc] : List Value).toArray 46 (0, 0))) :: (K, r) :: F)
      repeat' (first | with_reducible exact Ent.refl _ | with_reducible refine Ent.take_eq ?_ ?_ | rfl | with_reducible refine Ent.oR ?_ | with_reducible refine Ent.trans (oR.drop _ _ _) ?_ | with_reducible refine Ent.trans (Ent.drop _ _) ?_)
  · repeat' (first | with_reducible (first | refine go1 ?_ | refine sct ?_ | refine scf ?_ | refine sgr ?_) | with_reducible refine sw_store_agg ?_ | fail)
    refine sq_resAT Tryd.results46 (by first | exact .inl rfl | exact .inr rfl) rfl ?_
    refine ⟨_, ⟨⟨d, n, ⟨kind, 0, [], [], [], []⟩, []⟩, false, .slice none 0 0, by unfold bareT bareC; simp only; (repeat (first | rw [if_pos (by assumption)] | rw [if_neg (by assumption)])), rfl, hk0, rfl⟩, ?_⟩
    repeat' (first | with_reducible exact Ent.refl _ | with_reducible refine Ent.take_eq ?_ ?_ | rfl | with_reducible refine Ent.oR ?_ | with_reducible refine Ent.trans (oR.drop _ _ _) ?_ | with_reducible refine Ent.trans (Ent.drop _ _) ?_)
  rintro ⟨c, hc, hk1⟩ e1
  simp only [List.cons_append, List.nil_append]
  repeat' (first | with_reducible (first | refine go1 ?_ | refine sct ?_ | refine scf ?_ | refine sgr ?_) | fail)
  refine sc_lin ([(b4, pts b4 (.cells ([.int .i64 d, .int .i64 n, .int .i64 c.kind, .int .i64 c.level, .string (sB c.key), .string (sB c.value), .string (sB c.low), .string (sB c.high), .slice none 0 0] : List Value).toArray 46 (0, 0))), (b5, pts b5 (.cells [.int .i64 kind, .int .i64 level, .string (sB key), .string (sB value), .string (sB low), .string (sB high)].toArray 44 (0, 0))), (b1, pts b1 (.cells ([.int .i64 d, .int .i64 n, .int .i64 kind, .int .i64 level, .string (sB key), .string (sB value), .string (sB low), .string (sB high), .slice ka k.length kc] : List Value).toArray 46 (0, 0)))]) (llp 0 (llp 1 (llp 2 (llp 3 (llp 4 (llp 5 (llp 6 (llp 7 (llp 8 (lle 9 (llp 10 ll0))))))))))) (by kernel_rfl) rfl (by kernel_rfl) ?_
  all_goals (iterate 5 refine go1l ?_)
  all_goals (first | refine go1l ?_ | ((refine sl_split 99 (fun h => ?_) (fun h => ?_)) <;> (try (exfalso; first | contradiction | omega | exact h Iff.rfl)) <;> refine go1l ?_))
  all_goals (first | refine go1l ?_ | ((refine sl_split 99 (fun h => ?_) (fun h => ?_)) <;> (try (exfalso; first | contradiction | omega | exact h Iff.rfl)) <;> refine go1l ?_))
  all_goals (first | refine go1l ?_ | ((refine sl_split 99 (fun h => ?_) (fun h => ?_)) <;> (try (exfalso; first | contradiction | omega | exact h Iff.rfl)) <;> refine go1l ?_))
  all_goals (first | refine go1l ?_ | ((refine sl_split 99 (fun h => ?_) (fun h => ?_)) <;> (try (exfalso; first | contradiction | omega | exact h Iff.rfl)) <;> refine go1l ?_))
  all_goals refine sl_eff ?_
  all_goals (repeat' (first | with_reducible (first | refine go1 ?_ | refine sct ?_ | refine scf ?_ | refine sgr ?_) | with_reducible refine sw_store_agg ?_ | with_reducible refine sl_back ?_ | fail))
  all_goals refine go1l ?_
  all_goals refine sl_done ?_
  all_goals (repeat' (first | with_reducible (first | refine go1 ?_ | refine sct ?_ | refine scf ?_ | refine sgr ?_) | fail))
  all_goals (refine sq_resAT Tryd.results46 (by first | exact .inl rfl | exact .inr rfl) rfl ?_)
  · refine ⟨_, ⟨⟨d, n, c, []⟩, true, .slice none 0 0, by unfold bareT; simp only; rw [if_pos hd, hc]; simp only; rw [if_neg hk1, decide_eq_true (by assumption)]; rfl, rfl, hk0, rfl⟩, ?_⟩
    repeat' (first | with_reducible exact Ent.refl _ | with_reducible refine Ent.take_eq ?_ ?_ | rfl | with_reducible refine Ent.oR ?_ | with_reducible refine Ent.trans (oR.drop _ _ _) ?_ | with_reducible refine Ent.trans (Ent.drop _ _) ?_)
  · refine ⟨_, ⟨⟨d, n, c, []⟩, decide (n = 16), .slice none 0 0, by unfold bareT; simp only; rw [if_pos hd, hc]; simp only; rw [if_neg hk1, decide_eq_false (by assumption)]; rfl, rfl, hk0, rfl⟩, ?_⟩
    repeat' (first | with_reducible exact Ent.refl _ | with_reducible refine Ent.take_eq ?_ ?_ | rfl | with_reducible refine Ent.oR ?_ | with_reducible refine Ent.trans (oR.drop _ _ _) ?_ | with_reducible refine Ent.trans (Ent.drop _ _) ?_)
end Go.Gsl

namespace Go.Gsl
set_option linter.unusedVariables false
open Go.Proofs

/-- a call's line (where it is none: what the document's function prints) -/
def callS (n : Int) (c : Call) : Bs := match callT n c with
  | some l => lineT l
  | none => wForget
theorem callS_of {n : Int} {c : Call} {l : List Tok} {x : Bs} (h : callT n c = some l) (hx : lineT l = x) : callS n c = x := by unfold callS; rw [h]; exact hx
set_option maxHeartbeats 8000000 in
theorem qCall_ok (n : Int) (hn : -9223372036854775808 ≤ n ∧ n ≤ 9223372036854775807) (kind level : Int) (key value low high : Bs) (h1 : key.length ≤ 1048576) (h2 : value.length ≤ 1048576) (h3 : low.length ≤ 1048576) (h4 : high.length ≤ 1048576) :
    Spec Tryd.prog 47 [.int .i64 n, .agg ([.int .i64 kind, .int .i64 level, .string (sB key), .string (sB value), .string (sB low), .string (sB high)] : List Value).toArray] [] []
    fun F v Rs' => v = .string (sB (callS n ⟨kind, level, key, value, low, high⟩)) ∧ Rs' = F := by
  have hN := qNum_ok n hn
  have hi := Lib.itoa_length_le n hn.1 hn.2
  have hK := qQuote_ok key h1
  have hV := qQuote_ok value h2
  have hL := qQuote_ok low h3
  have hH := qQuote_ok high h4
  have k1 := quoteS_len key
  have k2 := quoteS_len value
  have k3 := quoteS_len low
  have k4 := quoteS_len high
  obtain ⟨N, hNe⟩ : ∃ N, Lib.itoa n = N := ⟨_, rfl⟩
  rw [hNe] at hN hi
  refine spec_of Tryd.func47 rfl Tryd.ntmps47 rfl ?_
  intro w0 F
  repeat' (first | with_reducible (first | refine go1 ?_ | refine sct ?_ | refine scf ?_ | refine sgr ?_) | with_reducible refine sw_box fun b1 => ?_ | ((with_reducible refine sw_callf hN ?_); rintro _ _ ⟨rfl, rfl⟩) | ((with_reducible refine sw_callf hK ?_); rintro _ _ ⟨rfl, rfl⟩) | with_reducible refine sw_op (h := runop_sadd (by simp only [List.length_append, List.length_cons, List.length_nil]; omega)) ?_ | fail)
  repeat' (first | with_reducible (first | refine go1 ?_ | refine sct ?_ | refine scf ?_ | refine sgr ?_) | ((with_reducible refine sw_callf hV ?_); rintro _ _ ⟨rfl, rfl⟩) | with_reducible refine sw_op (h := runop_sadd (by simp only [List.length_append, List.length_cons, List.length_nil]; omega)) ?_ | (with_reducible refine sc_cond (fun h => ?_) (fun h => ?_)) <;> (try (exfalso; first | contradiction | omega | exact h Iff.rfl)) | fail)
  · refine sq_ret1 Tryd.results47 ?_
    have hc : callT n ⟨kind, level, key, value, low, high⟩ = some [pw wBegin, pw (Lib.itoa n), pw wSerial] := by unfold callT; simp only; (repeat (first | rw [if_pos (by assumption)] | rw [if_neg (by assumption)]))
    refine ⟨_, ⟨?_, rfl⟩, ?_⟩
    · rw [callS_of hc rfl]
      simp only [lineN, line1, lineX, tok_pw, tok_tx, hNe, List.append_assoc]
      rfl
    · repeat' (first | with_reducible exact Ent.refl _ | with_reducible refine Ent.take_eq ?_ ?_ | rfl | with_reducible refine Ent.oR ?_ | with_reducible refine Ent.trans (oR.drop _ _ _) ?_ | with_reducible refine Ent.trans (Ent.drop _ _) ?_)
  · refine sq_ret1 Tryd.results47 ?_
    have hc : callT n ⟨kind, level, key, value, low, high⟩ = some [pw wBegin, pw (Lib.itoa n), pw wSnapshot] := by unfold callT; simp only; (repeat (first | rw [if_pos (by assumption)] | rw [if_neg (by assumption)]))
    refine ⟨_, ⟨?_, rfl⟩, ?_⟩
    · rw [callS_of hc rfl]
      simp only [lineN, line1, lineX, tok_pw, tok_tx, hNe, List.append_assoc]
      rfl
    · repeat' (first | with_reducible exact Ent.refl _ | with_reducible refine Ent.take_eq ?_ ?_ | rfl | with_reducible refine Ent.oR ?_ | with_reducible refine Ent.trans (oR.drop _ _ _) ?_ | with_reducible refine Ent.trans (Ent.drop _ _) ?_)
  · refine sq_ret1 Tryd.results47 ?_
    have hc : callT n ⟨kind, level, key, value, low, high⟩ = some [pw wGet, pw (Lib.itoa n), tx key] := by unfold callT; simp only; (repeat (first | rw [if_pos (by assumption)] | rw [if_neg (by assumption)]))
    refine ⟨_, ⟨?_, rfl⟩, ?_⟩
    · rw [callS_of hc rfl]
      simp only [lineN, line1, lineX, tok_pw, tok_tx, hNe, List.append_assoc]
      rfl
    · repeat' (first | with_reducible exact Ent.refl _ | with_reducible refine Ent.take_eq ?_ ?_ | rfl | with_reducible refine Ent.oR ?_ | with_reducible refine Ent.trans (oR.drop _ _ _) ?_ | with_reducible refine Ent.trans (Ent.drop _ _) ?_)
  · refine sq_ret1 Tryd.results47 ?_
    have hc : callT n ⟨kind, level, key, value, low, high⟩ = some [pw wPut, pw (Lib.itoa n), tx key, tx value] := by unfold callT; simp only; (repeat (first | rw [if_pos (by assumption)] | rw [if_neg (by assumption)]))
    refine ⟨_, ⟨?_, rfl⟩, ?_⟩
    · rw [callS_of hc rfl]
      simp only [lineN, line1, lineX, tok_pw, tok_tx, hNe, List.append_assoc]
      rfl
    · repeat' (first | with_reducible exact Ent.refl _ | with_reducible refine Ent.take_eq ?_ ?_ | rfl | with_reducible refine Ent.oR ?_ | with_reducible refine Ent.trans (oR.drop _ _ _) ?_ | with_reducible refine Ent.trans (Ent.drop _ _) ?_)
  · refine sq_ret1 Tryd.results47 ?_
    have hc : callT n ⟨kind, level, key, value, low, high⟩ = some [pw wDelete, pw (Lib.itoa n), tx key] := by unfold callT; simp only; (repeat (first | rw [if_pos (by assumption)] | rw [if_neg (by assumption)]))
    refine ⟨_, ⟨?_, rfl⟩, ?_⟩
    · rw [callS_of hc rfl]
      simp only [lineN, line1, lineX, tok_pw, tok_tx, hNe, List.append_assoc]
      rfl
    · repeat' (first | with_reducible exact Ent.refl _ | with_reducible refine Ent.take_eq ?_ ?_ | rfl | with_reducible refine Ent.oR ?_ | with_reducible refine Ent.trans (oR.drop _ _ _) ?_ | with_reducible refine Ent.trans (Ent.drop _ _) ?_)
  · refine sc_lin ([(b1, pts b1 (.cells ([.int .i64 kind, .int .i64 level, .string (sB key), .string (sB value), .string (sB low), .string (sB high)] : List Value).toArray 44 (0, 0)))]) (llp 0 (llp 1 (llp 2 (llp 3 (llp 4 (llp 5 (llp 9 (llp 10 (llp 11 (lle 6 (llp 7 (llp 8 (lle 12 (llp 13 (llp 14 ll0))))))))))))))) (by kernel_rfl) rfl (by kernel_rfl) ?_
    all_goals refine go1l ?_
    all_goals refine sl_take (h := runop_sadd (by simp only [List.length_append, List.length_cons, List.length_nil]; omega)) ?_
    all_goals refine sl_take (h := runop_sadd (by simp only [List.length_append, List.length_cons, List.length_nil]; omega)) ?_
    all_goals (iterate 6 refine go1l ?_)
    all_goals refine sl_eff ?_
    all_goals (repeat' (first | with_reducible (first | refine go1 ?_ | refine sct ?_ | refine scf ?_ | refine sgr ?_) | ((with_reducible refine sw_callf hL ?_); rintro _ _ ⟨rfl, rfl⟩) | ((with_reducible refine sw_callf hH ?_); rintro _ _ ⟨rfl, rfl⟩) | with_reducible refine sl_back ?_ | fail))
    all_goals refine sl_take (h := runop_sadd (by simp only [List.length_append, List.length_cons, List.length_nil]; omega)) ?_
    all_goals refine sl_take (h := runop_sadd (by simp only [List.length_append, List.length_cons, List.length_nil]; omega)) ?_
    all_goals refine sl_eff ?_
    all_goals (repeat' (first | with_reducible (first | refine go1 ?_ | refine sct ?_ | refine scf ?_ | refine sgr ?_) | ((with_reducible refine sw_callf hL ?_); rintro _ _ ⟨rfl, rfl⟩) | ((with_reducible refine sw_callf hH ?_); rintro _ _ ⟨rfl, rfl⟩) | with_reducible refine sl_back ?_ | fail))
    all_goals refine sl_take (h := runop_sadd (by simp only [List.length_append, List.length_cons, List.length_nil]; omega)) ?_
    all_goals refine go1l ?_
    all_goals refine sl_done ?_
    all_goals (repeat' (first | with_reducible (first | refine go1 ?_ | refine sct ?_ | refine scf ?_ | refine sgr ?_) | fail))
    refine sq_ret1 Tryd.results47 ?_
    have hc : callT n ⟨kind, level, key, value, low, high⟩ = some [pw wScan, pw (Lib.itoa n), tx low, tx high] := by unfold callT; simp only; (repeat (first | rw [if_pos (by assumption)] | rw [if_neg (by assumption)]))
    refine ⟨_, ⟨?_, rfl⟩, ?_⟩
    · rw [callS_of hc rfl]
      simp only [lineN, line1, lineX, tok_pw, tok_tx, hNe, List.append_assoc]
      rfl
    · repeat' (first | with_reducible exact Ent.refl _ | with_reducible refine Ent.take_eq ?_ ?_ | rfl | with_reducible refine Ent.oR ?_ | with_reducible refine Ent.trans (oR.drop _ _ _) ?_ | with_reducible refine Ent.trans (Ent.drop _ _) ?_)
  · refine sq_ret1 Tryd.results47 ?_
    have hc : callT n ⟨kind, level, key, value, low, high⟩ = some [pw wCommit, pw (Lib.itoa n)] := by unfold callT; simp only; (repeat (first | rw [if_pos (by assumption)] | rw [if_neg (by assumption)]))
    refine ⟨_, ⟨?_, rfl⟩, ?_⟩
    · rw [callS_of hc rfl]
      simp only [lineN, line1, lineX, tok_pw, tok_tx, hNe, List.append_assoc]
      rfl
    · repeat' (first | with_reducible exact Ent.refl _ | with_reducible refine Ent.take_eq ?_ ?_ | rfl | with_reducible refine Ent.oR ?_ | with_reducible refine Ent.trans (oR.drop _ _ _) ?_ | with_reducible refine Ent.trans (Ent.drop _ _) ?_)
  · refine sq_ret1 Tryd.results47 ?_
    have hc : callT n ⟨kind, level, key, value, low, high⟩ = some [pw wAbort, pw (Lib.itoa n)] := by unfold callT; simp only; (repeat (first | rw [if_pos (by assumption)] | rw [if_neg (by assumption)]))
    refine ⟨_, ⟨?_, rfl⟩, ?_⟩
    · rw [callS_of hc rfl]
      simp only [lineN, line1, lineX, tok_pw, tok_tx, hNe, List.append_assoc]
      rfl
    · repeat' (first | with_reducible exact Ent.refl _ | with_reducible refine Ent.take_eq ?_ ?_ | rfl | with_reducible refine Ent.oR ?_ | with_reducible refine Ent.trans (oR.drop _ _ _) ?_ | with_reducible refine Ent.trans (Ent.drop _ _) ?_)
  · refine sq_ret1 Tryd.results47 ?_
    have hc : callT n ⟨kind, level, key, value, low, high⟩ = some [pw wEpoch] := by unfold callT; simp only; (repeat (first | rw [if_pos (by assumption)] | rw [if_neg (by assumption)]))
    refine ⟨_, ⟨?_, rfl⟩, ?_⟩
    · rw [callS_of hc rfl]
      simp only [lineN, line1, lineX, tok_pw, tok_tx, hNe, List.append_assoc]
      rfl
    · repeat' (first | with_reducible exact Ent.refl _ | with_reducible refine Ent.take_eq ?_ ?_ | rfl | with_reducible refine Ent.oR ?_ | with_reducible refine Ent.trans (oR.drop _ _ _) ?_ | with_reducible refine Ent.trans (Ent.drop _ _) ?_)
  · refine sq_ret1 Tryd.results47 ?_
    have hc : callT n ⟨kind, level, key, value, low, high⟩ = some [pw wPrune, tx key] := by unfold callT; simp only; (repeat (first | rw [if_pos (by assumption)] | rw [if_neg (by assumption)]))
    refine ⟨_, ⟨?_, rfl⟩, ?_⟩
    · rw [callS_of hc rfl]
      simp only [lineN, line1, lineX, tok_pw, tok_tx, hNe, List.append_assoc]
      rfl
    · repeat' (first | with_reducible exact Ent.refl _ | with_reducible refine Ent.take_eq ?_ ?_ | rfl | with_reducible refine Ent.oR ?_ | with_reducible refine Ent.trans (oR.drop _ _ _) ?_ | with_reducible refine Ent.trans (Ent.drop _ _) ?_)
  · refine sq_ret1 Tryd.results47 ?_
    have hc : callT n ⟨kind, level, key, value, low, high⟩ = some [pw wShrink, tx key] := by unfold callT; simp only; (repeat (first | rw [if_pos (by assumption)] | rw [if_neg (by assumption)]))
    refine ⟨_, ⟨?_, rfl⟩, ?_⟩
    · rw [callS_of hc rfl]
      simp only [lineN, line1, lineX, tok_pw, tok_tx, hNe, List.append_assoc]
      rfl
    · repeat' (first | with_reducible exact Ent.refl _ | with_reducible refine Ent.take_eq ?_ ?_ | rfl | with_reducible refine Ent.oR ?_ | with_reducible refine Ent.trans (oR.drop _ _ _) ?_ | with_reducible refine Ent.trans (Ent.drop _ _) ?_)
  · refine sq_ret1 Tryd.results47 ?_
    have hc : callT n ⟨kind, level, key, value, low, high⟩ = some [pw wSave] := by unfold callT; simp only; (repeat (first | rw [if_pos (by assumption)] | rw [if_neg (by assumption)]))
    refine ⟨_, ⟨?_, rfl⟩, ?_⟩
    · rw [callS_of hc rfl]
      simp only [lineN, line1, lineX, tok_pw, tok_tx, hNe, List.append_assoc]
      rfl
    · repeat' (first | with_reducible exact Ent.refl _ | with_reducible refine Ent.take_eq ?_ ?_ | rfl | with_reducible refine Ent.oR ?_ | with_reducible refine Ent.trans (oR.drop _ _ _) ?_ | with_reducible refine Ent.trans (Ent.drop _ _) ?_)
  refine sq_ret1 Tryd.results47 ?_
  refine ⟨_, ⟨?_, rfl⟩, ?_⟩
  · by_cases hk : kind = 12
    · rw [callS_of (l := [pw wForget]) (by unfold callT; simp only; (repeat (first | rw [if_pos (by assumption)] | rw [if_neg (by assumption)]))) rfl, line1]; rfl
    · have hc : callT n ⟨kind, level, key, value, low, high⟩ = none := by unfold callT; simp only; (repeat (first | rw [if_pos (by assumption)] | rw [if_neg (by assumption)]))
      unfold callS; rw [hc]; rfl
  · repeat' (first | with_reducible exact Ent.refl _ | with_reducible refine Ent.take_eq ?_ ?_ | rfl | with_reducible refine Ent.oR ?_ | with_reducible refine Ent.trans (oR.drop _ _ _) ?_ | with_reducible refine Ent.trans (Ent.drop _ _) ?_)
end Go.Gsl

namespace Go.Gsl
set_option linter.unusedVariables false
open Go.Proofs

theorem RdK.one {r : HProp} {kv : Value} {k : List Bool} (h : RdK r kv k) : One kv := by
  obtain ⟨a, c, rfl, _⟩ := h
  infer_instance
set_option maxHeartbeats 8000000 in
theorem qLine_ok (K : Nat) (r : HProp) (a : Act) (kv : Value) (hk : RdK r kv a.k) (hs : a.small) :
    Spec Tryd.prog 23 [.agg (actC a kv).toArray] [K] [r] fun F v Rs' => v = lineV a ∧ Rs' = (K, r) :: F := by
  obtain ⟨hn, h1, h2, h3, h4, h5⟩ := hs
  have hN := qNum_ok a.n hn
  have hi := Lib.itoa_length_le a.n hn.1 hn.2
  have hC := qCall_ok a.n hn a.c.kind a.c.level a.c.key a.c.value a.c.low a.c.high h1 h2 h3 h4
  have hB := qBare_ok K r kv a.d a.n a.c.kind a.c.level a.c.key a.c.value a.c.low a.c.high a.k hk
  have hKT := qKTxt_ok K r kv a.k hk (by omega)
  have hSA := fun b kv' (hb : RdK r kv' b.k) => qSameAct_ok K r a b kv kv' hk hb (by omega)
  have hkl : (kTxt a.k).length ≤ a.k.length + 1 := by unfold kTxt; split <;> simp
  obtain ⟨ka, kc, rfl, hka, hkr⟩ := hk
  obtain ⟨d, n, ⟨kind, level, key, value, low, high⟩, k⟩ := a
  simp only at hN hi hC hB hKT hSA hn h1 h2 h3 h4 h5 hka hkr hkl
  obtain ⟨N, hNe⟩ : ∃ N, Lib.itoa n = N := ⟨_, rfl⟩
  rw [hNe] at hN hi
  have hcl : ([.int .i64 kind, .int .i64 level, .string (sB key), .string (sB value), .string (sB low), .string (sB high)] : List Value).length = 6 := rfl
  show Spec Tryd.prog 23 [.agg ([.int .i64 d, .int .i64 n, .int .i64 kind, .int .i64 level, .string (sB key), .string (sB value), .string (sB low), .string (sB high), .slice ka k.length kc] : List Value).toArray] [K] [r] _
  refine spec_of Tryd.func23 rfl Tryd.ntmps23 rfl ?_
  intro w0 F
  repeat' (first | with_reducible (first | refine go1 ?_ | refine sct ?_ | refine scf ?_ | refine sgr ?_) | with_reducible refine sw_box fun b1 => ?_ | ((with_reducible refine sw_callf hB ?_); rintro _ _ ⟨b, ok, kv', hb, rfl, hkb, rfl⟩) | fail)
  have hone : One kv' := hkb.one
  with_reducible refine sw_alloc fun b4 => ?_
  repeat' (first | with_reducible (first | refine go1 ?_ | refine sct ?_ | refine scf ?_ | refine sgr ?_) | with_reducible refine sw_store_agg ?_ | ((with_reducible refine sw_callf (hSA b kv' hkb) ?_); rintro _ _ ⟨rfl, rfl⟩) | with_reducible refine sw_load_aggR b1 2 [.int .i64 kind, .int .i64 level, .string (sB key), .string (sB value), .string (sB low), .string (sB high)] (rd6 b1 _) hcl rfl rfl ?_ | ((with_reducible refine sw_callf hC ?_); rintro _ _ ⟨rfl, rfl⟩) | ((with_reducible refine sw_callf hN ?_); rintro _ _ ⟨rfl, rfl⟩) | ((with_reducible refine sw_callf hKT ?_); rintro _ _ ⟨rfl, rfl⟩) | with_reducible refine sw_op (h := runop_sadd (by simp only [List.length_append, List.length_cons, List.length_nil]; omega)) ?_ | with_reducible refine sw_guard_skip_u ?_ | (with_reducible refine sc_cond (fun h => ?_) (fun h => ?_)) <;> (try (exfalso; first | contradiction | omega | exact h Iff.rfl)) | (with_reducible refine sw_guard_split (fun h => ?_) (fun h => ?_)) <;> (try (exfalso; first | contradiction | omega | exact h Iff.rfl)) | (with_reducible refine sw_pick (fun h => ?_) (fun h => ?_)) <;> (try (exfalso; first | contradiction | omega | exact h Iff.rfl)) | fail)
  · refine sq_ret2 Tryd.results23 ?_
    refine ⟨_, ⟨?_, rfl⟩, ?_⟩
    · rw [lineV_none (bare_bad (by rw [hb]; intro g; exact absurd (Prod.ext_iff.1 g).2 (by assumption)))]
    · repeat' (first | with_reducible exact Ent.refl _ | with_reducible refine Ent.take_eq ?_ ?_ | rfl | with_reducible refine Ent.oR ?_ | with_reducible refine Ent.trans (oR.drop _ _ _) ?_ | with_reducible refine Ent.trans (Ent.drop _ _) ?_)
  · refine sq_ret2 Tryd.results23 ?_
    refine ⟨_, ⟨?_, rfl⟩, ?_⟩
    · rw [lineV_none (bare_bad (by rw [hb]; intro g; exact absurd (Prod.ext_iff.1 g).1.symm (by assumption)))]
    · repeat' (first | with_reducible exact Ent.refl _ | with_reducible refine Ent.take_eq ?_ ?_ | rfl | with_reducible refine Ent.oR ?_ | with_reducible refine Ent.trans (oR.drop _ _ _) ?_ | with_reducible refine Ent.trans (Ent.drop _ _) ?_)
  · refine sq_ret2 Tryd.results23 ?_
    have e1 : ok = true := Classical.not_not.1 (by assumption)
    have e2 : (⟨d, n, ⟨kind, level, key, value, low, high⟩, k⟩ : Act) = b := Classical.not_not.1 (by assumption)
    have hgood : bareT (⟨d, n, ⟨kind, level, key, value, low, high⟩, k⟩ : Act) = ((⟨d, n, ⟨kind, level, key, value, low, high⟩, k⟩ : Act), true) := by rw [hb, e1, ← e2]
    have hso := bare_some hgood
    rw [show actT (⟨d, n, ⟨kind, level, key, value, low, high⟩, k⟩ : Act) = callT n ⟨kind, level, key, value, low, high⟩ from by unfold actT; simp only; rw [if_pos (by assumption)]] at hso
    obtain ⟨l, hl⟩ := Option.isSome_iff_exists.1 hso
    have hal : actT (⟨d, n, ⟨kind, level, key, value, low, high⟩, k⟩ : Act) = some l := by unfold actT; simp only; rw [if_pos (by assumption), hl]
    refine ⟨_, ⟨?_, rfl⟩, ?_⟩
    · rw [lineV_some (bare_good hgood hal), callS_of hl rfl]
    · repeat' (first | with_reducible exact Ent.refl _ | with_reducible refine Ent.take_eq ?_ ?_ | rfl | with_reducible refine Ent.oR ?_ | with_reducible refine Ent.trans (oR.drop _ _ _) ?_ | with_reducible refine Ent.trans (Ent.drop _ _) ?_)
  · refine sq_ret2 Tryd.results23 ?_
    have e1 : ok = true := Classical.not_not.1 (by assumption)
    have e2 : (⟨d, n, ⟨kind, level, key, value, low, high⟩, k⟩ : Act) = b := Classical.not_not.1 (by assumption)
    have hgood : bareT (⟨d, n, ⟨kind, level, key, value, low, high⟩, k⟩ : Act) = ((⟨d, n, ⟨kind, level, key, value, low, high⟩, k⟩ : Act), true) := by rw [hb, e1, ← e2]
    have hc : actT ⟨d, n, ⟨kind, level, key, value, low, high⟩, k⟩ = some [pw wStep, pw (Lib.itoa n)] := by unfold actT; simp only; (repeat (first | rw [if_pos (by assumption)] | rw [if_neg (by assumption)]))
    refine ⟨_, ⟨?_, rfl⟩, ?_⟩
    · rw [lineV_some (bare_good hgood hc)]
      simp only [lineN, line1, lineX, tok_pw, tok_tx, hNe, List.append_assoc]
      rfl
    · repeat' (first | with_reducible exact Ent.refl _ | with_reducible refine Ent.take_eq ?_ ?_ | rfl | with_reducible refine Ent.oR ?_ | with_reducible refine Ent.trans (oR.drop _ _ _) ?_ | with_reducible refine Ent.trans (Ent.drop _ _) ?_)
  · refine sq_ret2 Tryd.results23 ?_
    have e1 : ok = true := Classical.not_not.1 (by assumption)
    have e2 : (⟨d, n, ⟨kind, level, key, value, low, high⟩, k⟩ : Act) = b := Classical.not_not.1 (by assumption)
    have hgood : bareT (⟨d, n, ⟨kind, level, key, value, low, high⟩, k⟩ : Act) = ((⟨d, n, ⟨kind, level, key, value, low, high⟩, k⟩ : Act), true) := by rw [hb, e1, ← e2]
    have hc : actT ⟨d, n, ⟨kind, level, key, value, low, high⟩, k⟩ = some [pw wPick, pw (Lib.itoa n)] := by unfold actT; simp only; (repeat (first | rw [if_pos (by assumption)] | rw [if_neg (by assumption)]))
    refine ⟨_, ⟨?_, rfl⟩, ?_⟩
    · rw [lineV_some (bare_good hgood hc)]
      simp only [lineN, line1, lineX, tok_pw, tok_tx, hNe, List.append_assoc]
      rfl
    · repeat' (first | with_reducible exact Ent.refl _ | with_reducible refine Ent.take_eq ?_ ?_ | rfl | with_reducible refine Ent.oR ?_ | with_reducible refine Ent.trans (oR.drop _ _ _) ?_ | with_reducible refine Ent.trans (Ent.drop _ _) ?_)
  · refine sq_ret2 Tryd.results23 ?_
    have e1 : ok = true := Classical.not_not.1 (by assumption)
    have e2 : (⟨d, n, ⟨kind, level, key, value, low, high⟩, k⟩ : Act) = b := Classical.not_not.1 (by assumption)
    have hgood : bareT (⟨d, n, ⟨kind, level, key, value, low, high⟩, k⟩ : Act) = ((⟨d, n, ⟨kind, level, key, value, low, high⟩, k⟩ : Act), true) := by rw [hb, e1, ← e2]
    have hc : actT ⟨d, n, ⟨kind, level, key, value, low, high⟩, k⟩ = some [pw wRun, pw (Lib.itoa n)] := by unfold actT; simp only; (repeat (first | rw [if_pos (by assumption)] | rw [if_neg (by assumption)]))
    refine ⟨_, ⟨?_, rfl⟩, ?_⟩
    · rw [lineV_some (bare_good hgood hc)]
      simp only [lineN, line1, lineX, tok_pw, tok_tx, hNe, List.append_assoc]
      rfl
    · repeat' (first | with_reducible exact Ent.refl _ | with_reducible refine Ent.take_eq ?_ ?_ | rfl | with_reducible refine Ent.oR ?_ | with_reducible refine Ent.trans (oR.drop _ _ _) ?_ | with_reducible refine Ent.trans (Ent.drop _ _) ?_)
  · refine sq_ret2 Tryd.results23 ?_
    have e1 : ok = true := Classical.not_not.1 (by assumption)
    have e2 : (⟨d, n, ⟨kind, level, key, value, low, high⟩, k⟩ : Act) = b := Classical.not_not.1 (by assumption)
    have hgood : bareT (⟨d, n, ⟨kind, level, key, value, low, high⟩, k⟩ : Act) = ((⟨d, n, ⟨kind, level, key, value, low, high⟩, k⟩ : Act), true) := by rw [hb, e1, ← e2]
    have hc : actT ⟨d, n, ⟨kind, level, key, value, low, high⟩, k⟩ = some [pw wAll] := by unfold actT; simp only; (repeat (first | rw [if_pos (by assumption)] | rw [if_neg (by assumption)]))
    refine ⟨_, ⟨?_, rfl⟩, ?_⟩
    · rw [lineV_some (bare_good hgood hc)]
      simp only [lineN, line1, lineX, tok_pw, tok_tx, hNe, List.append_assoc]
      rfl
    · repeat' (first | with_reducible exact Ent.refl _ | with_reducible refine Ent.take_eq ?_ ?_ | rfl | with_reducible refine Ent.oR ?_ | with_reducible refine Ent.trans (oR.drop _ _ _) ?_ | with_reducible refine Ent.trans (Ent.drop _ _) ?_)
  · refine sq_ret2 Tryd.results23 ?_
    have e1 : ok = true := Classical.not_not.1 (by assumption)
    have e2 : (⟨d, n, ⟨kind, level, key, value, low, high⟩, k⟩ : Act) = b := Classical.not_not.1 (by assumption)
    have hgood : bareT (⟨d, n, ⟨kind, level, key, value, low, high⟩, k⟩ : Act) = ((⟨d, n, ⟨kind, level, key, value, low, high⟩, k⟩ : Act), true) := by rw [hb, e1, ← e2]
    have hc : actT ⟨d, n, ⟨kind, level, key, value, low, high⟩, k⟩ = some [pw wCrash, pw (kTxt k)] := by unfold actT; simp only; (repeat (first | rw [if_pos (by assumption)] | rw [if_neg (by assumption)]))
    refine ⟨_, ⟨?_, rfl⟩, ?_⟩
    · rw [lineV_some (bare_good hgood hc)]
      simp only [lineN, line1, lineX, tok_pw, tok_tx, hNe, List.append_assoc]
      rfl
    · repeat' (first | with_reducible exact Ent.refl _ | with_reducible refine Ent.take_eq ?_ ?_ | rfl | with_reducible refine Ent.oR ?_ | with_reducible refine Ent.trans (oR.drop _ _ _) ?_ | with_reducible refine Ent.trans (Ent.drop _ _) ?_)
  · refine sc_lin ([(b1, pts b1 (.cells ([.int .i64 d, .int .i64 n, .int .i64 kind, .int .i64 level, .string (sB key), .string (sB value), .string (sB low), .string (sB high), .slice ka k.length kc] : List Value).toArray 46 (0, 0)))]) (llp 0 (llp 1 (llp 5 (llp 6 (lle 2 (llp 3 (llp 4 (lle 7 (llp 8 (llp 9 (llp 10 ll0))))))))))) (by kernel_rfl) rfl (by kernel_rfl) ?_
    all_goals (iterate 4 refine go1l ?_)
    all_goals refine sl_eff ?_
    all_goals (repeat' (first | with_reducible (first | refine go1 ?_ | refine sct ?_ | refine scf ?_ | refine sgr ?_) | ((with_reducible refine sw_callf hN ?_); rintro _ _ ⟨rfl, rfl⟩) | ((with_reducible refine sw_callf hKT ?_); rintro _ _ ⟨rfl, rfl⟩) | with_reducible refine sl_back ?_ | fail))
    all_goals refine sl_take (h := runop_sadd (by simp only [List.length_append, List.length_cons, List.length_nil]; omega)) ?_
    all_goals refine sl_take (h := runop_sadd (by simp only [List.length_append, List.length_cons, List.length_nil]; omega)) ?_
    all_goals refine sl_eff ?_
    all_goals (repeat' (first | with_reducible (first | refine go1 ?_ | refine sct ?_ | refine scf ?_ | refine sgr ?_) | ((with_reducible refine sw_callf hN ?_); rintro _ _ ⟨rfl, rfl⟩) | ((with_reducible refine sw_callf hKT ?_); rintro _ _ ⟨rfl, rfl⟩) | with_reducible refine sl_back ?_ | fail))
    all_goals refine sl_take (h := runop_sadd (by simp only [List.length_append, List.length_cons, List.length_nil]; omega)) ?_
    all_goals (iterate 2 refine go1l ?_)
    all_goals refine sl_done ?_
    all_goals (repeat' (first | with_reducible (first | refine go1 ?_ | refine sct ?_ | refine scf ?_ | refine sgr ?_) | fail))
    refine sq_ret2 Tryd.results23 ?_
    have e1 : ok = true := Classical.not_not.1 (by assumption)
    have e2 : (⟨d, n, ⟨kind, level, key, value, low, high⟩, k⟩ : Act) = b := Classical.not_not.1 (by assumption)
    have hgood : bareT (⟨d, n, ⟨kind, level, key, value, low, high⟩, k⟩ : Act) = ((⟨d, n, ⟨kind, level, key, value, low, high⟩, k⟩ : Act), true) := by rw [hb, e1, ← e2]
    have hc : actT ⟨d, n, ⟨kind, level, key, value, low, high⟩, k⟩ = some [pw wFuse, pw (Lib.itoa n), pw (kTxt k)] := by unfold actT; simp only; (repeat (first | rw [if_pos (by assumption)] | rw [if_neg (by assumption)]))
    refine ⟨_, ⟨?_, rfl⟩, ?_⟩
    · rw [lineV_some (bare_good hgood hc)]
      simp only [lineN, line1, lineX, tok_pw, tok_tx, hNe, List.append_assoc]
      rfl
    · repeat' (first | with_reducible exact Ent.refl _ | with_reducible refine Ent.take_eq ?_ ?_ | rfl | with_reducible refine Ent.oR ?_ | with_reducible refine Ent.trans (oR.drop _ _ _) ?_ | with_reducible refine Ent.trans (Ent.drop _ _) ?_)
  · refine sq_ret2 Tryd.results23 ?_
    have e1 : ok = true := Classical.not_not.1 (by assumption)
    have e2 : (⟨d, n, ⟨kind, level, key, value, low, high⟩, k⟩ : Act) = b := Classical.not_not.1 (by assumption)
    have hgood : bareT (⟨d, n, ⟨kind, level, key, value, low, high⟩, k⟩ : Act) = ((⟨d, n, ⟨kind, level, key, value, low, high⟩, k⟩ : Act), true) := by rw [hb, e1, ← e2]
    have hc : actT ⟨d, n, ⟨kind, level, key, value, low, high⟩, k⟩ = some [pw wRestart] := by unfold actT; simp only; (repeat (first | rw [if_pos (by assumption)] | rw [if_neg (by assumption)]))
    refine ⟨_, ⟨?_, rfl⟩, ?_⟩
    · rw [lineV_some (bare_good hgood hc)]
      simp only [lineN, line1, lineX, tok_pw, tok_tx, hNe, List.append_assoc]
      rfl
    · repeat' (first | with_reducible exact Ent.refl _ | with_reducible refine Ent.take_eq ?_ ?_ | rfl | with_reducible refine Ent.oR ?_ | with_reducible refine Ent.trans (oR.drop _ _ _) ?_ | with_reducible refine Ent.trans (Ent.drop _ _) ?_)
  refine sq_ret2 Tryd.results23 ?_
  have e1 : ok = true := Classical.not_not.1 (by assumption)
  have e2 : (⟨d, n, ⟨kind, level, key, value, low, high⟩, k⟩ : Act) = b := Classical.not_not.1 (by assumption)
  have hgood : bareT (⟨d, n, ⟨kind, level, key, value, low, high⟩, k⟩ : Act) = ((⟨d, n, ⟨kind, level, key, value, low, high⟩, k⟩ : Act), true) := by rw [hb, e1, ← e2]
  have hso := bare_some hgood
  by_cases h9 : d = 9
  · have hc : actT ⟨d, n, ⟨kind, level, key, value, low, high⟩, k⟩ = some [pw wRest] := by unfold actT; simp only; (repeat (first | rw [if_pos (by assumption)] | rw [if_neg (by assumption)]))
    refine ⟨_, ⟨?_, rfl⟩, ?_⟩
    · rw [lineV_some (bare_good hgood hc), line1]; rfl
    · repeat' (first | with_reducible exact Ent.refl _ | with_reducible refine Ent.take_eq ?_ ?_ | rfl | with_reducible refine Ent.oR ?_ | with_reducible refine Ent.trans (oR.drop _ _ _) ?_ | with_reducible refine Ent.trans (Ent.drop _ _) ?_)
  · exfalso
    have hc : actT ⟨d, n, ⟨kind, level, key, value, low, high⟩, k⟩ = none := by unfold actT; simp only; (repeat (first | rw [if_pos (by assumption)] | rw [if_neg (by assumption)]))
    rw [hc] at hso; cases hso
end Go.Gsl

namespace Go.Gsl
set_option linter.unusedVariables false
open Go.Proofs

def prT (hd : Bs) (xs : List Bs) : Bs := hd ++ ([10] ++ xs.flatMap fun s => s ++ [10])
theorem prT_app (hd : Bs) (xs : List Bs) (s : Bs) : prT hd (xs ++ [s]) = prT hd xs ++ (s ++ [10]) := by unfold prT; simp [List.flatMap_append]
theorem prT_len (hd : Bs) (N : Nat) : ∀ xs : List Bs, (∀ x ∈ xs, x.length ≤ N) → (prT hd xs).length ≤ hd.length + 1 + xs.length * (N + 1)
  | [], _ => by unfold prT; simp
  | s :: xs, h => by
    have ih := prT_len hd N xs (fun x hx => h x (by simp [hx]))
    have h1 := h s (by simp)
    unfold prT at ih ⊢
    rw [List.flatMap_cons]
    simp only [List.length_append, List.length_cons, List.length_nil, Nat.add_mul] at ih ⊢
    omega
theorem prT_join : ∀ (xs : List Bs) (hd : Bs), Lib.join (hd :: xs ++ [[]]) [10] = prT hd xs
  | [], hd => by unfold prT; simp [Lib.join, List.intercalate]
  | s :: xs, hd => by
    have ih := prT_join xs s
    have e : Lib.join (hd :: (s :: xs) ++ [[]]) [10] = hd ++ ([10] ++ Lib.join (s :: xs ++ [[]]) [10]) := by
      simp [Lib.join, List.intercalate]
    rw [e, ih]
    unfold prT
    simp
set_option maxHeartbeats 8000000 in
theorem qPrint_ok (K : Nat) (r : HProp) (c0 c1 c2 c3 c4 c5 c6 : Int) (h0 : -9223372036854775808 ≤ c0 ∧ c0 ≤ 9223372036854775807) (h1 : -9223372036854775808 ≤ c1 ∧ c1 ≤ 9223372036854775807) (h2 : -9223372036854775808 ≤ c2 ∧ c2 ≤ 9223372036854775807) (h3 : -9223372036854775808 ≤ c3 ∧ c3 ≤ 9223372036854775807) (h4 : -9223372036854775808 ≤ c4 ∧ c4 ≤ 9223372036854775807) (h5 : -9223372036854775808 ≤ c5 ∧ c5 ≤ 9223372036854775807) (h6 : -9223372036854775808 ≤ c6 ∧ c6 ≤ 9223372036854775807) (va : Value) (l : List Act) (hA : RdAs r va l) (hs : ∀ a ∈ l, a.small) (hl : l.length ≤ 1048576) :
    Spec Tryd.prog 22 [.agg ([.int .i64 c0, .int .i64 c1, .int .i64 c2, .int .i64 c3, .int .i64 c4, .int .i64 c5, .int .i64 c6, va] : List Value).toArray] [K] [r]
    fun F v Rs' => v = printV [c0, c1, c2, c3, c4, c5, c6] l ∧ Rs' = (K, r) :: F := by
  obtain ⟨a, c, av, rfl, hav, ha, hra, hka, hla⟩ := hA
  have hcl : ([.int .i64 c0, .int .i64 c1, .int .i64 c2, .int .i64 c3, .int .i64 c4, .int .i64 c5, .int .i64 c6] : List Value).length = 7 := rfl
  have rd0 : ∀ (b : Nat) (cs : List Value), Reads (pts b (.cells cs.toArray 26 (0, 0))) (some ⟨b, 0, none⟩) cs := fun b cs => reads_pts fun j v hj => by rw [Nat.zero_add]; exact hj
  have hhl := head_len c0 c1 c2 c3 c4 c5 c6 h0 h1 h2 h3 h4 h5 h6
  obtain ⟨hd, hhd⟩ : ∃ hd, headS [c0, c1, c2, c3, c4, c5, c6] = hd := ⟨_, rfl⟩
  have hhq := hhd
  unfold headS at hhq
  simp only [List.map_cons, List.map_nil, lineN, line1, tok_pw] at hhq
  have hI0 := qNum_ok c0 h0
  have hi0 := Lib.itoa_length_le c0 h0.1 h0.2
  obtain ⟨N0, hN0⟩ : ∃ N, Lib.itoa c0 = N := ⟨_, rfl⟩
  rw [hN0] at hI0 hi0 hhq
  have hI1 := qNum_ok c1 h1
  have hi1 := Lib.itoa_length_le c1 h1.1 h1.2
  obtain ⟨N1, hN1⟩ : ∃ N, Lib.itoa c1 = N := ⟨_, rfl⟩
  rw [hN1] at hI1 hi1 hhq
  have hI2 := qNum_ok c2 h2
  have hi2 := Lib.itoa_length_le c2 h2.1 h2.2
  obtain ⟨N2, hN2⟩ : ∃ N, Lib.itoa c2 = N := ⟨_, rfl⟩
  rw [hN2] at hI2 hi2 hhq
  have hI3 := qNum_ok c3 h3
  have hi3 := Lib.itoa_length_le c3 h3.1 h3.2
  obtain ⟨N3, hN3⟩ : ∃ N, Lib.itoa c3 = N := ⟨_, rfl⟩
  rw [hN3] at hI3 hi3 hhq
  have hI4 := qNum_ok c4 h4
  have hi4 := Lib.itoa_length_le c4 h4.1 h4.2
  obtain ⟨N4, hN4⟩ : ∃ N, Lib.itoa c4 = N := ⟨_, rfl⟩
  rw [hN4] at hI4 hi4 hhq
  have hI5 := qNum_ok c5 h5
  have hi5 := Lib.itoa_length_le c5 h5.1 h5.2
  obtain ⟨N5, hN5⟩ : ∃ N, Lib.itoa c5 = N := ⟨_, rfl⟩
  rw [hN5] at hI5 hi5 hhq
  have hI6 := qNum_ok c6 h6
  have hi6 := Lib.itoa_length_le c6 h6.1 h6.2
  obtain ⟨N6, hN6⟩ : ∃ N, Lib.itoa c6 = N := ⟨_, rfl⟩
  rw [hN6] at hI6 hi6 hhq
  rw [hhd] at hhl
  refine spec_of Tryd.func22 rfl Tryd.ntmps22 rfl ?_
  intro w0 F
  repeat' (first | with_reducible (first | refine go1 ?_ | refine sct ?_ | refine scf ?_ | refine sgr ?_) | fail)
  refine sw_box fun b1 => ?_
  repeat' (first | with_reducible (first | refine go1 ?_ | refine sct ?_ | refine scf ?_ | refine sgr ?_) | with_reducible refine sw_load_aggR b1 0 [.int .i64 c0, .int .i64 c1, .int .i64 c2, .int .i64 c3, .int .i64 c4, .int .i64 c5, .int .i64 c6] (rd0 b1 _) hcl rfl rfl ?_ | with_reducible refine sw_alloc fun b4 => ?_ | with_reducible refine sw_store_agg ?_ | fail)
  refine sc_lin ([(b4, pts b4 (.cells ([.int .i64 c0, .int .i64 c1, .int .i64 c2, .int .i64 c3, .int .i64 c4, .int .i64 c5, .int .i64 c6] : List Value).toArray 23 (0, 0)))]) (llp 0 (llp 1 (llp 5 (llp 6 (llp 10 (llp 11 (llp 15 (llp 16 (llp 20 (llp 21 (llp 25 (llp 26 (llp 30 (llp 31 (lle 2 (llp 3 (llp 4 (lle 7 (llp 8 (llp 9 (lle 12 (llp 13 (llp 14 (lle 17 (llp 18 (llp 19 (lle 22 (llp 23 (llp 24 (lle 27 (llp 28 (llp 29 (lle 32 (llp 33 (llp 34 (llp 35 ll0)))))))))))))))))))))))))))))))))))) (by kernel_rfl) rfl (by kernel_rfl) ?_
  all_goals (iterate 14 refine go1l ?_)
  all_goals refine sl_eff ?_
  all_goals (repeat' (first | with_reducible (first | refine go1 ?_ | refine sct ?_ | refine scf ?_ | refine sgr ?_) | ((with_reducible refine sw_callf hI0 ?_); rintro _ _ ⟨rfl, rfl⟩) | ((with_reducible refine sw_callf hI1 ?_); rintro _ _ ⟨rfl, rfl⟩) | ((with_reducible refine sw_callf hI2 ?_); rintro _ _ ⟨rfl, rfl⟩) | ((with_reducible refine sw_callf hI3 ?_); rintro _ _ ⟨rfl, rfl⟩) | ((with_reducible refine sw_callf hI4 ?_); rintro _ _ ⟨rfl, rfl⟩) | ((with_reducible refine sw_callf hI5 ?_); rintro _ _ ⟨rfl, rfl⟩) | ((with_reducible refine sw_callf hI6 ?_); rintro _ _ ⟨rfl, rfl⟩) | with_reducible refine sl_back ?_ | fail))
  all_goals refine sl_take (h := runop_sadd (by simp only [List.length_append, List.length_cons, List.length_nil]; omega)) ?_
  all_goals refine sl_take (h := runop_sadd (by simp only [List.length_append, List.length_cons, List.length_nil]; omega)) ?_
  all_goals refine sl_eff ?_
  all_goals (repeat' (first | with_reducible (first | refine go1 ?_ | refine sct ?_ | refine scf ?_ | refine sgr ?_) | ((with_reducible refine sw_callf hI0 ?_); rintro _ _ ⟨rfl, rfl⟩) | ((with_reducible refine sw_callf hI1 ?_); rintro _ _ ⟨rfl, rfl⟩) | ((with_reducible refine sw_callf hI2 ?_); rintro _ _ ⟨rfl, rfl⟩) | ((with_reducible refine sw_callf hI3 ?_); rintro _ _ ⟨rfl, rfl⟩) | ((with_reducible refine sw_callf hI4 ?_); rintro _ _ ⟨rfl, rfl⟩) | ((with_reducible refine sw_callf hI5 ?_); rintro _ _ ⟨rfl, rfl⟩) | ((with_reducible refine sw_callf hI6 ?_); rintro _ _ ⟨rfl, rfl⟩) | with_reducible refine sl_back ?_ | fail))
  all_goals refine sl_take (h := runop_sadd (by simp only [List.length_append, List.length_cons, List.length_nil]; omega)) ?_
  all_goals refine sl_take (h := runop_sadd (by simp only [List.length_append, List.length_cons, List.length_nil]; omega)) ?_
  all_goals refine sl_eff ?_
  all_goals (repeat' (first | with_reducible (first | refine go1 ?_ | refine sct ?_ | refine scf ?_ | refine sgr ?_) | ((with_reducible refine sw_callf hI0 ?_); rintro _ _ ⟨rfl, rfl⟩) | ((with_reducible refine sw_callf hI1 ?_); rintro _ _ ⟨rfl, rfl⟩) | ((with_reducible refine sw_callf hI2 ?_); rintro _ _ ⟨rfl, rfl⟩) | ((with_reducible refine sw_callf hI3 ?_); rintro _ _ ⟨rfl, rfl⟩) | ((with_reducible refine sw_callf hI4 ?_); rintro _ _ ⟨rfl, rfl⟩) | ((with_reducible refine sw_callf hI5 ?_); rintro _ _ ⟨rfl, rfl⟩) | ((with_reducible refine sw_callf hI6 ?_); rintro _ _ ⟨rfl, rfl⟩) | with_reducible refine sl_back ?_ | fail))
  all_goals refine sl_take (h := runop_sadd (by simp only [List.length_append, List.length_cons, List.length_nil]; omega)) ?_
  all_goals refine sl_take (h := runop_sadd (by simp only [List.length_append, List.length_cons, List.length_nil]; omega)) ?_
  all_goals refine sl_eff ?_
  all_goals (repeat' (first | with_reducible (first | refine go1 ?_ | refine sct ?_ | refine scf ?_ | refine sgr ?_) | ((with_reducible refine sw_callf hI0 ?_); rintro _ _ ⟨rfl, rfl⟩) | ((with_reducible refine sw_callf hI1 ?_); rintro _ _ ⟨rfl, rfl⟩) | ((with_reducible refine sw_callf hI2 ?_); rintro _ _ ⟨rfl, rfl⟩) | ((with_reducible refine sw_callf hI3 ?_); rintro _ _ ⟨rfl, rfl⟩) | ((with_reducible refine sw_callf hI4 ?_); rintro _ _ ⟨rfl, rfl⟩) | ((with_reducible refine sw_callf hI5 ?_); rintro _ _ ⟨rfl, rfl⟩) | ((with_reducible refine sw_callf hI6 ?_); rintro _ _ ⟨rfl, rfl⟩) | with_reducible refine sl_back ?_ | fail))
  all_goals refine sl_take (h := runop_sadd (by simp only [List.length_append, List.length_cons, List.length_nil]; omega)) ?_
  all_goals refine sl_take (h := runop_sadd (by simp only [List.length_append, List.length_cons, List.length_nil]; omega)) ?_
  all_goals refine sl_eff ?_
  all_goals (repeat' (first | with_reducible (first | refine go1 ?_ | refine sct ?_ | refine scf ?_ | refine sgr ?_) | ((with_reducible refine sw_callf hI0 ?_); rintro _ _ ⟨rfl, rfl⟩) | ((with_reducible refine sw_callf hI1 ?_); rintro _ _ ⟨rfl, rfl⟩) | ((with_reducible refine sw_callf hI2 ?_); rintro _ _ ⟨rfl, rfl⟩) | ((with_reducible refine sw_callf hI3 ?_); rintro _ _ ⟨rfl, rfl⟩) | ((with_reducible refine sw_callf hI4 ?_); rintro _ _ ⟨rfl, rfl⟩) | ((with_reducible refine sw_callf hI5 ?_); rintro _ _ ⟨rfl, rfl⟩) | ((with_reducible refine sw_callf hI6 ?_); rintro _ _ ⟨rfl, rfl⟩) | with_reducible refine sl_back ?_ | fail))
  all_goals refine sl_take (h := runop_sadd (by simp only [List.length_append, List.length_cons, List.length_nil]; omega)) ?_
  all_goals refine sl_take (h := runop_sadd (by simp only [List.length_append, List.length_cons, List.length_nil]; omega)) ?_
  all_goals refine sl_eff ?_
  all_goals (repeat' (first | with_reducible (first | refine go1 ?_ | refine sct ?_ | refine scf ?_ | refine sgr ?_) | ((with_reducible refine sw_callf hI0 ?_); rintro _ _ ⟨rfl, rfl⟩) | ((with_reducible refine sw_callf hI1 ?_); rintro _ _ ⟨rfl, rfl⟩) | ((with_reducible refine sw_callf hI2 ?_); rintro _ _ ⟨rfl, rfl⟩) | ((with_reducible refine sw_callf hI3 ?_); rintro _ _ ⟨rfl, rfl⟩) | ((with_reducible refine sw_callf hI4 ?_); rintro _ _ ⟨rfl, rfl⟩) | ((with_reducible refine sw_callf hI5 ?_); rintro _ _ ⟨rfl, rfl⟩) | ((with_reducible refine sw_callf hI6 ?_); rintro _ _ ⟨rfl, rfl⟩) | with_reducible refine sl_back ?_ | fail))
  all_goals refine sl_take (h := runop_sadd (by simp only [List.length_append, List.length_cons, List.length_nil]; omega)) ?_
  all_goals refine sl_take (h := runop_sadd (by simp only [List.length_append, List.length_cons, List.length_nil]; omega)) ?_
  all_goals refine sl_eff ?_
  all_goals (repeat' (first | with_reducible (first | refine go1 ?_ | refine sct ?_ | refine scf ?_ | refine sgr ?_) | ((with_reducible refine sw_callf hI0 ?_); rintro _ _ ⟨rfl, rfl⟩) | ((with_reducible refine sw_callf hI1 ?_); rintro _ _ ⟨rfl, rfl⟩) | ((with_reducible refine sw_callf hI2 ?_); rintro _ _ ⟨rfl, rfl⟩) | ((with_reducible refine sw_callf hI3 ?_); rintro _ _ ⟨rfl, rfl⟩) | ((with_reducible refine sw_callf hI4 ?_); rintro _ _ ⟨rfl, rfl⟩) | ((with_reducible refine sw_callf hI5 ?_); rintro _ _ ⟨rfl, rfl⟩) | ((with_reducible refine sw_callf hI6 ?_); rintro _ _ ⟨rfl, rfl⟩) | with_reducible refine sl_back ?_ | fail))
  all_goals refine sl_take (h := runop_sadd (by simp only [List.length_append, List.length_cons, List.length_nil]; omega)) ?_
  all_goals refine sl_take (h := runop_sadd (by simp only [List.length_append, List.length_cons, List.length_nil]; omega)) ?_
  all_goals refine go1l ?_
  all_goals refine sl_done ?_
  all_goals (repeat' (first | with_reducible (first | refine go1 ?_ | refine sct ?_ | refine scf ?_ | refine sgr ?_) | fail))
  refine sc_set 5 (.string (sB (prT hd []))) (by rw [← hhq]; unfold prT; simp only [List.append_assoc]; rfl) ?_
  refine sc_keep [1, 5, 6] fun e1 => ?_
  simp only [List.cons_append, List.nil_append]
  refine sc_loop (α := { x : Nat × List Bs // x.1 ≤ l.length ∧ linesS (l.take x.1) = some x.2 })
    (fun x => [(1, .pointer (some ⟨b1, 0, none⟩)), (5, .string (sB (prT hd x.1.2))), (6, .int .i64 (x.1.1 : Int))])
    (fun x => (b1, pts b1 (.cells ([.int .i64 c0, .int .i64 c1, .int .i64 c2, .int .i64 c3, .int .i64 c4, .int .i64 c5, .int .i64 c6, .slice a l.length c] : List Value).toArray 26 (0, 0))) :: (K, r) :: F) (fun x => l.length - x.1.1) ⟨(0, []), Nat.zero_le _, rfl⟩ ?_ ?_ ?_
  · repeat' (first | exact says_nil | refine says_cons rfl ?_ | refine says_cons (by simp) ?_)
  · repeat' (first | with_reducible exact Ent.refl _ | with_reducible refine Ent.take_eq ?_ ?_ | rfl | with_reducible refine Ent.oR ?_ | with_reducible refine Ent.trans (oR.drop _ _ _) ?_ | with_reducible refine Ent.trans (Ent.drop _ _) ?_)
  rintro ⟨⟨i, xs⟩, hi, hxs⟩ e
  dsimp only at hi hxs
  simp only [List.cons_append, List.nil_append]
  have hxl := linesS_len hxs
  rw [List.length_take] at hxl
  have hxe := linesS_each hxs (fun a ha => hs a (List.mem_of_mem_take ha))
  have hpl := prT_len hd 33554432 xs hxe
  have hpb : (prT hd xs).length ≤ 100000000000000 := by
    have hpm : xs.length * (33554432 + 1) ≤ 1048576 * (33554432 + 1) := Nat.mul_le_mul_right _ (by omega)
    omega
  clear hpl hxe
  by_cases hil : i < l.length
  · obtain ⟨b, o', rfl⟩ := ha (by omega)
    obtain ⟨kv, hm1, hv1⟩ := avC_part hav hil act00
    have hsu := hs _ (getD_mem hil)
    have hLn := qLine_ok K r (l.getD i act00) kv (hka _ hm1) hsu
    obtain ⟨ka, kc, hkv, _, _⟩ := hka _ hm1
    simp only at hkv
    subst hkv
    have hbad := fun h => print_bad (c := [c0, c1, c2, c3, c4, c5, c6]) hil hxs h
    have hst := linesS_step hil hxs
    generalize l.getD i act00 = u at *
    have hul : (actC u (.slice ka u.k.length kc)).length = 9 := rfl
    cases hu : lineS u with
    | none =>
      rw [lineV_none hu] at hLn
      have hbad := hbad hu
      repeat' (first | with_reducible refine sw_in (by omega) ?_ | with_reducible (first | refine go1 ?_ | refine sct ?_ | refine scf ?_ | refine sgr ?_) | with_reducible refine sw_indexN i ⟨rfl, by omega⟩ ?_ | with_reducible refine sw_load_aggR K (i * 9) (actC u (.slice ka u.k.length kc)) hra hul hv1 (by omega) ?_ | ((with_reducible refine sw_callf hLn ?_); rintro _ _ ⟨rfl, rfl⟩) | with_reducible refine sw_op (h := runop_sadd (by simp only [List.length_append, List.length_cons, List.length_nil]; omega)) ?_ | with_reducible refine sw_guard_skip_u ?_ | (with_reducible refine sc_cond (fun h => ?_) (fun h => ?_)) <;> (try (exfalso; first | contradiction | omega | exact h Iff.rfl)) | (with_reducible refine sw_guard_split (fun h => ?_) (fun h => ?_)) <;> (try (exfalso; first | contradiction | omega | exact h Iff.rfl)) | (with_reducible refine sw_pick (fun h => ?_) (fun h => ?_)) <;> (try (exfalso; first | contradiction | omega | exact h Iff.rfl)) | fail)
      refine sq_ret2 Tryd.results22 ?_
      refine ⟨_, ⟨hbad.symm, rfl⟩, ?_⟩
      repeat' (first | with_reducible exact Ent.refl _ | with_reducible refine Ent.take_eq ?_ ?_ | rfl | with_reducible refine Ent.oR ?_ | with_reducible refine Ent.trans (oR.drop _ _ _) ?_ | with_reducible refine Ent.trans (Ent.drop _ _) ?_)
    | some s =>
      rw [lineV_some hu] at hLn
      rw [hu] at hst
      have hsl := lineS_len hu hsu
      repeat' (first | with_reducible refine sw_in (by omega) ?_ | with_reducible (first | refine go1 ?_ | refine sct ?_ | refine scf ?_ | refine sgr ?_) | with_reducible refine sw_indexN i ⟨rfl, by omega⟩ ?_ | with_reducible refine sw_load_aggR K (i * 9) (actC u (.slice ka u.k.length kc)) hra hul hv1 (by omega) ?_ | ((with_reducible refine sw_callf hLn ?_); rintro _ _ ⟨rfl, rfl⟩) | with_reducible refine sw_op (h := runop_sadd (by simp only [List.length_append, List.length_cons, List.length_nil]; omega)) ?_ | with_reducible refine sw_guard_skip_u ?_ | (with_reducible refine sc_cond (fun h => ?_) (fun h => ?_)) <;> (try (exfalso; first | contradiction | omega | exact h Iff.rfl)) | (with_reducible refine sw_guard_split (fun h => ?_) (fun h => ?_)) <;> (try (exfalso; first | contradiction | omega | exact h Iff.rfl)) | (with_reducible refine sw_pick (fun h => ?_) (fun h => ?_)) <;> (try (exfalso; first | contradiction | omega | exact h Iff.rfl)) | fail)
      refine sq_round ⟨(i + 1, xs ++ [s]), by dsimp only; omega, by dsimp only; rw [hst]; rfl⟩ (by show l.length - (i + 1) < l.length - i; omega) ?_ ?_
      · show says _ [(1, .pointer (some ⟨b1, 0, none⟩)), (5, .string (sB (prT hd (xs ++ [s])))), (6, .int .i64 ((i + 1 : Nat) : Int))]
        rw [prT_app]
        repeat' (first | exact says_nil | refine says_cons rfl ?_ | refine says_cons (by simp) ?_)
      · repeat' (first | with_reducible exact Ent.refl _ | with_reducible refine Ent.take_eq ?_ ?_ | rfl | with_reducible refine Ent.oR ?_ | with_reducible refine Ent.trans (oR.drop _ _ _) ?_ | with_reducible refine Ent.trans (Ent.drop _ _) ?_)
  · have hie : i = l.length := by omega
    subst hie
    rw [List.take_length] at hxs
    repeat' (first | with_reducible refine sw_in (by omega) ?_ | with_reducible (first | refine go1 ?_ | refine sct ?_ | refine scf ?_ | refine sgr ?_) | with_reducible refine sw_guard_skip_u ?_ | (with_reducible refine sc_cond (fun h => ?_) (fun h => ?_)) <;> (try (exfalso; first | contradiction | omega | exact h Iff.rfl)) | (with_reducible refine sw_guard_split (fun h => ?_) (fun h => ?_)) <;> (try (exfalso; first | contradiction | omega | exact h Iff.rfl)) | (with_reducible refine sw_pick (fun h => ?_) (fun h => ?_)) <;> (try (exfalso; first | contradiction | omega | exact h Iff.rfl)) | fail)
    · refine sq_ret2 Tryd.results22 ?_
      have hpv : printV [c0, c1, c2, c3, c4, c5, c6] l = .tuple #[.string (sB []), .int .i64 3] := by unfold printV printS; rw [hxs]; simp only; rw [if_pos (by omega)]
      refine ⟨_, ⟨hpv.symm, rfl⟩, ?_⟩
      repeat' (first | with_reducible exact Ent.refl _ | with_reducible refine Ent.take_eq ?_ ?_ | rfl | with_reducible refine Ent.oR ?_ | with_reducible refine Ent.trans (oR.drop _ _ _) ?_ | with_reducible refine Ent.trans (Ent.drop _ _) ?_)
    · refine sq_ret2 Tryd.results22 ?_
      have hpv : printV [c0, c1, c2, c3, c4, c5, c6] l = .tuple #[.string (sB (prT hd xs)), .int .i64 0] := by
        unfold printV printS; rw [hxs]; simp only; rw [if_neg (by omega), hhd, prT_join]
      refine ⟨_, ⟨hpv.symm, rfl⟩, ?_⟩
      repeat' (first | with_reducible exact Ent.refl _ | with_reducible refine Ent.take_eq ?_ ?_ | rfl | with_reducible refine Ent.oR ?_ | with_reducible refine Ent.trans (oR.drop _ _ _) ?_ | with_reducible refine Ent.trans (Ent.drop _ _) ?_)
end Go.Gsl

namespace Go.Gsl
set_option linter.unusedVariables false
open Go.Proofs

section
variable {P : Program} {ops : List Oper} {Q : Cont} {n : Nat} {w0 : World} {rest : List Oper} {e : Env} {Rs F : List Res} {ty : TypeId}
/-- append(s, ys...), an element having several cells, s being nil or a row of one's own -/
theorem sw_appendNRd {d : Nat} {t el : TypeId} {nb sz : Nat} {x y : Operand} {z : Value} {a : Option Addr} {m' c' : Nat} {pos : String} {after : Array Edge} (cells src : List Value) (m : Nat) (o : Option (Nat × Nat × List Value)) (ho : NOk sz cells m o)
    [hx : Ev n e x (nV m o)] [hy : Ev n e y (.slice a m' c')] [he : Elem P t el sz nb z] [tk : TakeO Rs (nG el cells) o F]
    (hsrc : ∀ w, Sat w0 w Rs → ∀ j v, src[j]? = some v → ∃ ad, a = some ad ∧ w.cell? (ad.add j) = some v)
    (h1 : ∀ v ∈ src, v.oneCell' = true) (hzc : z.cells.size = sz) (hsz : 0 < sz)
    (h : src.length = m' * sz ∧ m + m' ≤ 9223372036854775807 ∧ (m + m') * nb ≤ 140737488355328)
    (k : ∀ o', NOk sz (cells ++ src) (m + m') o' → SW P ops Q n w0 rest ((d, nV (m + m') o') :: e) (oR (nG el (cells ++ src)) F o')) :
    SW P ops Q n w0 ({ dst := some d, op := .call { callee := .builtin .append, args := [x, y].toArray, argTypes := [t, t].toArray }, type := ty, pos := pos, after := after, guard := none } :: rest) e Rs := by
  obtain ⟨h2, h3, h4⟩ := h
  obtain ⟨q1, q2, q3⟩ := ho
  cases o with
  | none =>
    obtain ⟨rfl, rfl⟩ := q2 rfl
    have hxn : Ev n e x (.slice none 0 0) := hx
    rcases Nat.eq_zero_or_pos m' with h0 | hp
    · subst h0
      have hs : src = [] := List.length_eq_zero_iff.1 (by omega)
      subst hs
      refine sw_append_00 (hx := hxn) (hy := hy) (el := el) (fun w hw => ?_)
      exact k none ⟨by simp, fun _ => ⟨rfl, rfl⟩, fun b c t hh => by cases hh⟩ w (hw.ent tk.ent)
    · refine sw_appendN_nil (src := src) (hx := hxn) (hy := hy) (el := el) hsrc hzc hsz ⟨by omega, by omega, by omega, by rw [Nat.zero_add] at h4; omega⟩ fun b' r c2 hc2 hl2 => ?_
      have hk := k (some (b', c2, r)) ⟨by rw [List.nil_append, Nat.zero_add]; omega, fun h => (by cases h), fun b c t hh => by cases hh; rw [Nat.zero_add, List.nil_append]; exact ⟨hc2, hl2⟩⟩
      rw [Nat.zero_add] at hk
      exact sw_ent (Ent.cons _ tk.ent) hk
  | some bt =>
    obtain ⟨b, c, r0⟩ := bt
    obtain ⟨q4, q5⟩ := q3 b c r0 rfl
    have hxs : Ev n e x (.slice (some ⟨b, 0, none⟩) m c) := hx
    have tk' : Take Rs b (pts b (.cells (cells ++ r0).toArray el (0, 0))) F := ⟨tk.ent, tk.back⟩
    refine sw_appendN (src := src) (hx := hxs) (hy := hy) (el := el) (tk := tk') hsrc h1 hzc hsz ⟨q4, q5, by omega, h3, h4⟩ fun b' r c2 hc2 hl2 => ?_
    rw [List.take_left' q1] at hl2 ⊢
    exact k (some (b', c2, r)) ⟨by rw [List.length_append, q1, h2, Nat.add_mul], fun h => (by cases h), fun b c t hh => by cases hh; exact ⟨hc2, hl2⟩⟩
/-- append(nil, ys...) -/
theorem sw_appendN0 {d : Nat} {t el : TypeId} {nb sz : Nat} {x y : Operand} {z : Value} {a : Option Addr} {m' c' : Nat} {pos : String} {after : Array Edge} (src : List Value)
    [hx : Ev n e x (.slice none 0 0)] [hy : Ev n e y (.slice a m' c')] [he : Elem P t el sz nb z]
    (hsrc : ∀ w, Sat w0 w Rs → ∀ j v, src[j]? = some v → ∃ ad, a = some ad ∧ w.cell? (ad.add j) = some v)
    (h1 : ∀ v ∈ src, v.oneCell' = true) (hzc : z.cells.size = sz) (hsz : 0 < sz)
    (h : src.length = m' * sz ∧ m' ≤ 9223372036854775807 ∧ m' * nb ≤ 140737488355328)
    (k : ∀ o', NOk sz src m' o' → SW P ops Q n w0 rest ((d, nV m' o') :: e) (oR (nG el src) Rs o')) :
    SW P ops Q n w0 ({ dst := some d, op := .call { callee := .builtin .append, args := [x, y].toArray, argTypes := [t, t].toArray }, type := ty, pos := pos, after := after, guard := none } :: rest) e Rs := by
  have hx' : Ev n e x (nV 0 none) := hx
  refine sw_appendNRd (hx := hx') (hy := hy) (el := el) (F := Rs) [] src 0 none ⟨by simp, fun _ => ⟨rfl, rfl⟩, fun b c t h => by cases h⟩ (tk := ⟨Ent.refl _, Ent.refl _⟩) hsrc h1 hzc hsz ⟨h.1, by omega, by rw [Nat.zero_add]; exact h.2.2⟩ fun o' ho' => ?_
  rw [Nat.zero_add, List.nil_append] at *
  exact k o' ho'
theorem Reads.src {r : HProp} {a : Option Addr} {xs : List Value} {k : Nat} (hr : Reads r a xs) [t : Take Rs k r F] : ∀ w, Sat w0 w Rs → ∀ j v, xs[j]? = some v → ∃ ad, a = some ad ∧ w.cell? (ad.add j) = some v := fun w hw => Reads.sat (F := F) (t := t) hr hw
end
theorem avC_app (x y : List AV) : avC (x ++ y) = avC x ++ avC y := by unfold avC; rw [List.flatMap_append]
theorem avC_len9 : ∀ l : List AV, (avC l).length = l.length * 9
  | [] => rfl
  | x :: l => by
    have e1 : avC (x :: l) = actC x.1 x.2 ++ avC l := by unfold avC; rw [List.flatMap_cons]
    have e2 : (actC x.1 x.2).length = 9 := rfl
    have e3 := avC_len9 l
    rw [e1, List.length_append, e2, e3, List.length_cons]
    omega
theorem avC_one {r : HProp} : ∀ {l : List AV}, (∀ p ∈ l, RdK r p.2 p.1.k) → ∀ v ∈ avC l, v.oneCell' = true
  | [], _, v, hv => by cases hv
  | x :: l, h, v, hv => by
    have e1 : avC (x :: l) = actC x.1 x.2 ++ avC l := by unfold avC; rw [List.flatMap_cons]
    rw [e1] at hv
    rcases List.mem_append.1 hv with hv | hv
    · have h1 := (h x (by simp)).one.out
      simp only [List.mem_cons, List.not_mem_nil, or_false] at hv
      rcases hv with rfl | rfl | rfl | rfl | rfl | rfl | rfl | rfl | rfl
      all_goals (first | exact h1 | rfl)
    · exact avC_one (fun p hp => h p (by simp [hp])) v hv
set_option maxHeartbeats 8000000 in
theorem l26Prints_ok (W : World) (hT : Tabs Tryd.prog W) (c0 c1 c2 c3 c4 c5 c6 d0 d1 d2 d3 d4 d5 d6 : Int) (h0 : -9223372036854775808 ≤ c0 ∧ c0 ≤ 9223372036854775807) (h1 : -9223372036854775808 ≤ c1 ∧ c1 ≤ 9223372036854775807) (h2 : -9223372036854775808 ≤ c2 ∧ c2 ≤ 9223372036854775807) (h3 : -9223372036854775808 ≤ c3 ∧ c3 ≤ 9223372036854775807) (h4 : -9223372036854775808 ≤ c4 ∧ c4 ≤ 9223372036854775807) (h5 : -9223372036854775808 ≤ c5 ∧ c5 ≤ 9223372036854775807) (h6 : -9223372036854775808 ≤ c6 ∧ c6 ≤ 9223372036854775807) (va vb : Value) (l m : List Act) (hA : RdAs (ro W) va l) (hA' : RdAs (ro W) vb m) (hs : ∀ a ∈ l, a.small) (hs' : ∀ a ∈ m, a.small) (hl : l.length ≤ 1048576) (hm : m.length ≤ 1048576) :
    Spec Tryd.prog 7 [.agg ([.int .i64 c0, .int .i64 c1, .int .i64 c2, .int .i64 c3, .int .i64 c4, .int .i64 c5, .int .i64 c6, va] : List Value).toArray, .agg ([.int .i64 d0, .int .i64 d1, .int .i64 d2, .int .i64 d3, .int .i64 d4, .int .i64 d5, .int .i64 d6, vb] : List Value).toArray] [0] [ro W]
    fun F v Rs' => v = .bool true ∧ Rs' = (0, ro W) :: F := by
  have hB := begun_ok W hT
  have hP1 := sPrint_ok W hT 7040 (ro W) c0 c1 c2 c3 c4 c5 c6 h0 h1 h2 h3 h4 h5 h6 va l hA hs hl
  have hP2 := qPrint_ok 7040 (ro W) c0 c1 c2 c3 c4 c5 c6 h0 h1 h2 h3 h4 h5 h6 va l hA hs hl
  have hS1 := sSame_ok 7040 (ro W) c0 c1 c2 c3 c4 c5 c6 d0 d1 d2 d3 d4 d5 d6 va vb l m hA hA' (by omega)
  have hS2 := qSame_ok 7040 (ro W) c0 c1 c2 c3 c4 c5 c6 d0 d1 d2 d3 d4 d5 d6 va vb l m hA hA' (by omega)
  have hS3 := sSame_ok 7040 (ro W) c0 c1 c2 c3 c4 c5 c6 c0 c1 c2 c3 c4 c5 c6 va va l l hA hA (by omega)
  rw [decide_eq_true rfl, decide_eq_true rfl, Bool.and_self] at hS3
  generalize (decide ([c0, c1, c2, c3, c4, c5, c6] = [d0, d1, d2, d3, d4, d5, d6]) && decide (l = m)) = X at hS1 hS2
  obtain ⟨ev, pv, hpv⟩ : ∃ (e : Int) (b : Bs), printV [c0, c1, c2, c3, c4, c5, c6] l = .tuple #[.string (sB b), .int .i64 e] := by
    unfold printV
    split
    · exact ⟨_, _, rfl⟩
    · exact ⟨_, _, rfl⟩
  rw [hpv] at hP1 hP2
  obtain ⟨a, c, av, rfl, hav, ha, hra, hka, hla⟩ := hA
  obtain ⟨a', c', av', rfl, hav', ha', hra', hka', hla'⟩ := hA'
  refine spec_of Tryd.func7 rfl Tryd.ntmps7 rfl ?_
  intro w0 F
  refine sc_ent (Ent.ro_dup 7040 W F) ?_
  repeat' (first | with_reducible (first | refine go1 ?_ | refine sct ?_ | refine scf ?_ | refine sgr ?_) | fail)
  with_reducible refine sw_box fun b1 => ?_
  repeat' (first | with_reducible (first | refine go1 ?_ | refine sct ?_ | refine scf ?_ | refine sgr ?_) | fail)
  with_reducible refine sw_box fun b2 => ?_
  repeat' (first | with_reducible (first | refine go1 ?_ | refine sct ?_ | refine scf ?_ | refine sgr ?_) | ((with_reducible refine sw_callf hP1 ?_); rintro _ _ ⟨rfl, rfl⟩) | ((with_reducible refine sw_callf hP2 ?_); rintro _ _ ⟨rfl, rfl⟩) | fail)
  refine sc_lin ([(b1, pts b1 (.cells ([.int .i64 c0, .int .i64 c1, .int .i64 c2, .int .i64 c3, .int .i64 c4, .int .i64 c5, .int .i64 c6, .slice a l.length c] : List Value).toArray 26 (0, 0))), (b2, pts b2 (.cells ([.int .i64 d0, .int .i64 d1, .int .i64 d2, .int .i64 d3, .int .i64 d4, .int .i64 d5, .int .i64 d6, .slice a' m.length c'] : List Value).toArray 26 (0, 0)))]) (lle 0 (llp 1 (llp 2 (llp 3 (llp 4 (llp 5 (llp 6 (llp 7 (llp 8 (llp 9 (llp 10 (llp 11 (llp 12 (llp 13 (llp 14 (llp 16 (llp 17 (lle 15 (lle 18 (llp 19 (llp 20 (llp 21 (llp 22 (llp 23 (lle 24 (llp 25 (llp 26 ll0))))))))))))))))))))))))))) (by kernel_rfl) rfl (by kernel_rfl) ?_
  all_goals refine sl_eff ?_
  all_goals (repeat' (first | with_reducible (first | refine go1 ?_ | refine sct ?_ | refine scf ?_ | refine sgr ?_) | ((with_reducible refine sw_callf hB ?_); rintro _ _ ⟨rfl, rfl⟩) | ((with_reducible refine sw_callf hS1 ?_); rintro _ _ ⟨rfl, rfl⟩) | ((with_reducible refine sw_callf hS2 ?_); rintro _ _ ⟨rfl, rfl⟩) | ((with_reducible refine sw_callf hS3 ?_); rintro _ _ ⟨rfl, rfl⟩) | with_reducible refine sl_back ?_ | fail))
  all_goals (iterate 2 refine go1l ?_)
  all_goals (first | refine go1l ?_ | ((refine sl_split 27 (fun h => ?_) (fun h => ?_)) <;> (try (exfalso; first | contradiction | omega | exact h Iff.rfl)) <;> refine go1l ?_))
  all_goals (first | refine go1l ?_ | ((refine sl_split 27 (fun h => ?_) (fun h => ?_)) <;> (try (exfalso; first | contradiction | omega | exact h Iff.rfl)) <;> refine go1l ?_))
  all_goals (first | refine go1l ?_ | ((refine sl_split 27 (fun h => ?_) (fun h => ?_)) <;> (try (exfalso; first | contradiction | omega | exact h Iff.rfl)) <;> refine go1l ?_))
  all_goals (first | refine go1l ?_ | ((refine sl_split 27 (fun h => ?_) (fun h => ?_)) <;> (try (exfalso; first | contradiction | omega | exact h Iff.rfl)) <;> refine go1l ?_))
  all_goals refine go1l ?_
  all_goals (first | refine go1l ?_ | ((refine sl_split 32 (fun h => ?_) (fun h => ?_)) <;> (try (exfalso; first | contradiction | omega | exact h Iff.rfl)) <;> refine go1l ?_))
  all_goals (first | refine go1l ?_ | ((refine sl_split 32 (fun h => ?_) (fun h => ?_)) <;> (try (exfalso; first | contradiction | omega | exact h Iff.rfl)) <;> refine go1l ?_))
  all_goals (first | refine go1l ?_ | ((refine sl_split 32 (fun h => ?_) (fun h => ?_)) <;> (try (exfalso; first | contradiction | omega | exact h Iff.rfl)) <;> refine go1l ?_))
  all_goals (first | refine go1l ?_ | ((refine sl_split 32 (fun h => ?_) (fun h => ?_)) <;> (try (exfalso; first | contradiction | omega | exact h Iff.rfl)) <;> refine go1l ?_))
  all_goals refine go1l ?_
  all_goals (first | refine go1l ?_ | ((refine sl_split 37 (fun h => ?_) (fun h => ?_)) <;> (try (exfalso; first | contradiction | omega | exact h Iff.rfl)) <;> refine go1l ?_))
  all_goals (first | refine go1l ?_ | ((refine sl_split 37 (fun h => ?_) (fun h => ?_)) <;> (try (exfalso; first | contradiction | omega | exact h Iff.rfl)) <;> refine go1l ?_))
  all_goals (first | refine go1l ?_ | ((refine sl_split 37 (fun h => ?_) (fun h => ?_)) <;> (try (exfalso; first | contradiction | omega | exact h Iff.rfl)) <;> refine go1l ?_))
  all_goals (first | refine go1l ?_ | ((refine sl_split 37 (fun h => ?_) (fun h => ?_)) <;> (try (exfalso; first | contradiction | omega | exact h Iff.rfl)) <;> refine go1l ?_))
  all_goals refine sl_eff ?_
  all_goals (repeat' (first | with_reducible (first | refine go1 ?_ | refine sct ?_ | refine scf ?_ | refine sgr ?_) | ((with_reducible refine sw_callf hB ?_); rintro _ _ ⟨rfl, rfl⟩) | ((with_reducible refine sw_callf hS1 ?_); rintro _ _ ⟨rfl, rfl⟩) | ((with_reducible refine sw_callf hS2 ?_); rintro _ _ ⟨rfl, rfl⟩) | ((with_reducible refine sw_callf hS3 ?_); rintro _ _ ⟨rfl, rfl⟩) | with_reducible refine sl_back ?_ | fail))
  all_goals refine sl_eff ?_
  all_goals (repeat' (first | with_reducible (first | refine go1 ?_ | refine sct ?_ | refine scf ?_ | refine sgr ?_) | ((with_reducible refine sw_callf hB ?_); rintro _ _ ⟨rfl, rfl⟩) | ((with_reducible refine sw_callf hS1 ?_); rintro _ _ ⟨rfl, rfl⟩) | ((with_reducible refine sw_callf hS2 ?_); rintro _ _ ⟨rfl, rfl⟩) | ((with_reducible refine sw_callf hS3 ?_); rintro _ _ ⟨rfl, rfl⟩) | with_reducible refine sl_back ?_ | fail))
  all_goals (first | refine go1l ?_ | ((refine sl_split 37 (fun h => ?_) (fun h => ?_)) <;> (try (exfalso; first | contradiction | omega | exact h Iff.rfl)) <;> refine go1l ?_))
  all_goals (first | refine go1l ?_ | ((refine sl_split 37 (fun h => ?_) (fun h => ?_)) <;> (try (exfalso; first | contradiction | omega | exact h Iff.rfl)) <;> refine go1l ?_))
  all_goals refine go1l ?_
  all_goals (first | refine go1l ?_ | ((refine sl_split 46 (fun h => ?_) (fun h => ?_)) <;> (try (exfalso; first | contradiction | omega | exact h Iff.rfl)) <;> refine go1l ?_))
  all_goals (first | refine go1l ?_ | ((refine sl_split 46 (fun h => ?_) (fun h => ?_)) <;> (try (exfalso; first | contradiction | omega | exact h Iff.rfl)) <;> refine go1l ?_))
  all_goals refine sl_eff ?_
  all_goals (repeat' (first | with_reducible (first | refine go1 ?_ | refine sct ?_ | refine scf ?_ | refine sgr ?_) | ((with_reducible refine sw_callf hB ?_); rintro _ _ ⟨rfl, rfl⟩) | ((with_reducible refine sw_callf hS1 ?_); rintro _ _ ⟨rfl, rfl⟩) | ((with_reducible refine sw_callf hS2 ?_); rintro _ _ ⟨rfl, rfl⟩) | ((with_reducible refine sw_callf hS3 ?_); rintro _ _ ⟨rfl, rfl⟩) | with_reducible refine sl_back ?_ | fail))
  all_goals (first | refine go1l ?_ | ((refine sl_split 46 (fun h => ?_) (fun h => ?_)) <;> (try (exfalso; first | contradiction | omega | exact h Iff.rfl)) <;> refine go1l ?_))
  all_goals (first | refine go1l ?_ | ((refine sl_split 46 (fun h => ?_) (fun h => ?_)) <;> (try (exfalso; first | contradiction | omega | exact h Iff.rfl)) <;> refine go1l ?_))
  all_goals refine sl_done ?_
  all_goals (repeat' (first | with_reducible (first | refine go1 ?_ | refine sct ?_ | refine scf ?_ | refine sgr ?_) | (with_reducible refine sc_cond (fun h => ?_) (fun h => ?_)) <;> (try (exfalso; first | contradiction | omega | exact h Iff.rfl)) | fail))
  have hL1 : (avC av).length = l.length * 9 := by rw [avC_len9, ← hav, List.length_map]
  have hL2 : (avC av').length = m.length * 9 := by rw [avC_len9, ← hav', List.length_map]
  refine sc_lin ([(b1, pts b1 (.cells ([.int .i64 c0, .int .i64 c1, .int .i64 c2, .int .i64 c3, .int .i64 c4, .int .i64 c5, .int .i64 c6, .slice a l.length c] : List Value).toArray 26 (0, 0))), (b2, pts b2 (.cells ([.int .i64 d0, .int .i64 d1, .int .i64 d2, .int .i64 d3, .int .i64 d4, .int .i64 d5, .int .i64 d6, .slice a' m.length c'] : List Value).toArray 26 (0, 0)))]) (llp 0 (llp 1 (llp 3 (llp 4 (llp 7 (lle 2 (lle 5 (llp 6 ll0)))))))) (by kernel_rfl) rfl (by kernel_rfl) ?_
  all_goals (iterate 5 refine go1l ?_)
  all_goals refine sl_eff ?_
  all_goals (repeat' (first | with_reducible (first | refine go1 ?_ | refine sct ?_ | refine scf ?_ | refine sgr ?_) | with_reducible refine sw_appendN0 (sz := 9) (avC av) (Reads.src (k := 7040) hra) (avC_one hka) (by kernel_rfl) (by omega) ⟨hL1, by omega, by omega⟩ fun o1 ho1 => ?_ | with_reducible refine sw_appendNRd (sz := 9) (avC av) (avC av') l.length o1 ho1 (Reads.src (k := 7040) hra') (avC_one hka') (by kernel_rfl) (by omega) ⟨hL2, by omega, by omega⟩ fun o2 ho2 => ?_ | with_reducible refine sl_back ?_ | fail))
  all_goals refine sl_eff ?_
  all_goals (repeat' (first | with_reducible (first | refine go1 ?_ | refine sct ?_ | refine scf ?_ | refine sgr ?_) | with_reducible refine sw_appendN0 (sz := 9) (avC av) (Reads.src (k := 7040) hra) (avC_one hka) (by kernel_rfl) (by omega) ⟨hL1, by omega, by omega⟩ fun o1 ho1 => ?_ | with_reducible refine sw_appendNRd (sz := 9) (avC av) (avC av') l.length o1 ho1 (Reads.src (k := 7040) hra') (avC_one hka') (by kernel_rfl) (by omega) ⟨hL2, by omega, by omega⟩ fun o2 ho2 => ?_ | with_reducible refine sl_back ?_ | fail))
  all_goals refine sl_take (h := runop_lenNV o2 (fun h => (ho2.2.1 h).2)) ?_
  all_goals refine sl_done ?_
  all_goals (repeat' (first | with_reducible (first | refine go1 ?_ | refine sct ?_ | refine scf ?_ | refine sgr ?_) | fail))
  have hav2 : List.map Prod.fst (av ++ av') = l ++ m := by rw [List.map_append, hav, hav']
  have hka2 : ∀ p ∈ av ++ av', RdK (ro W) p.2 p.1.k := fun p hp => by
    rcases List.mem_append.1 hp with hp | hp
    · exact hka p hp
    · exact hka' p hp
  have hs2 : ∀ a ∈ l ++ m, a.small := fun a ha => by
    rcases List.mem_append.1 ha with ha | ha
    · exact hs a ha
    · exact hs' a ha
  have hN2 : l.length + m.length = (l ++ m).length := by rw [List.length_append]
  have hN3 : (l ++ m).length ≤ 2097152 := by omega
  rw [← avC_app, hN2] at ho2 ⊢
  clear hN2
  generalize l ++ m = L at *
  generalize av ++ av' = AV2 at *
  refine sc_loop (α := { i : Nat // i ≤ L.length }) (fun x => [(57, nV L.length o2), (58, .int .i64 (L.length : Int)), (59, .int .i64 (x.1 : Int))])
    (fun x => oR (nG 46 (avC AV2)) ((7040, ro W) :: (0, ro W) :: F) o2) (fun x => L.length - x.1) ⟨0, Nat.zero_le _⟩ ?_ ?_ ?_
  · repeat' (first | exact says_nil | refine says_cons rfl ?_ | refine says_cons (by simp) ?_)
  · repeat' (first | with_reducible exact Ent.refl _ | with_reducible refine Ent.take_eq ?_ ?_ | rfl | with_reducible refine Ent.oR ?_ | with_reducible refine Ent.trans (oR.drop _ _ _) ?_ | with_reducible refine Ent.trans (Ent.drop _ _) ?_)
  rintro ⟨i, hi⟩ e
  simp only [List.cons_append, List.nil_append]
  by_cases hil : i < L.length
  · obtain ⟨b, c2, t2, rfl⟩ : ∃ b c2 t2, o2 = some (b, c2, t2) := by
      cases o2 with
      | none => have := (ho2.2.1 rfl).2; omega
      | some q => exact ⟨q.1, q.2.1, q.2.2, rfl⟩
    rw [nG_some, show nV L.length (some (b, c2, t2)) = .slice (some ⟨b, 0, none⟩) L.length c2 from rfl]
    obtain ⟨kv, hm1, hv1⟩ := avC_part hav2 hil act00
    have hsu := hs2 _ (getD_mem hil)
    have hkk := hka2 _ hm1
    have hLn := Line_ok W hT 7040 (ro W) (L.getD i act00) kv hkk hsu
    have hLq := qLine_ok 7040 (ro W) (L.getD i act00) kv hkk hsu
    have hone : One kv := hkk.one
    generalize L.getD i act00 = u at *
    have hul : (actC u kv).length = 9 := rfl
    have hrow : Reads (pts b (.cells (avC AV2 ++ t2).toArray 46 (0, 0))) (some ⟨b, 0, none⟩) (avC AV2) := reads_pts fun j v hj => by rw [Nat.zero_add, List.getElem?_append_left (List.getElem?_eq_some_iff.1 hj).1]; exact hj
    obtain ⟨ev2, pv2, hpv2⟩ : ∃ (e : Int) (b : Bs), lineV u = .tuple #[.string (sB b), .int .i64 e] := by
      unfold lineV
      split
      · exact ⟨_, _, rfl⟩
      · exact ⟨_, _, rfl⟩
    rw [hpv2] at hLn hLq
    repeat' (first | with_reducible refine sw_in (by omega) ?_ | with_reducible (first | refine go1 ?_ | refine sct ?_ | refine scf ?_ | refine sgr ?_) | with_reducible refine sw_indexN i ⟨rfl, by omega⟩ ?_ | with_reducible refine sw_load_aggR b (i * 9) (actC u kv) hrow hul hv1 (by omega) ?_ | with_reducible refine sw_alloc fun b7 => ?_ | with_reducible refine sw_store_agg ?_ | ((with_reducible refine sw_callf hLn ?_); rintro _ _ ⟨rfl, rfl⟩) | ((with_reducible refine sw_callf hLq ?_); rintro _ _ ⟨rfl, rfl⟩) | with_reducible refine sw_guard_skip_u ?_ | (with_reducible refine sc_cond (fun h => ?_) (fun h => ?_)) <;> (try (exfalso; first | contradiction | omega | exact h Iff.rfl)) | (with_reducible refine sw_guard_split (fun h => ?_) (fun h => ?_)) <;> (try (exfalso; first | contradiction | omega | exact h Iff.rfl)) | (with_reducible refine sw_pick (fun h => ?_) (fun h => ?_)) <;> (try (exfalso; first | contradiction | omega | exact h Iff.rfl)) | fail)
    refine sq_round ⟨i + 1, by omega⟩ (by show L.length - (i + 1) < L.length - i; omega) ?_ ?_
    · show says _ [(57, .slice (some ⟨b, 0, none⟩) L.length c2), (58, .int .i64 (L.length : Int)), (59, .int .i64 ((i + 1 : Nat) : Int))]
      repeat' (first | exact says_nil | refine says_cons rfl ?_ | refine says_cons (by simp) ?_)
    · show Ent _ ((b, pts b (.cells (avC AV2 ++ t2).toArray 46 (0, 0))) :: (7040, ro W) :: (0, ro W) :: F)
      repeat' (first | with_reducible exact Ent.refl _ | with_reducible refine Ent.take_eq ?_ ?_ | rfl | with_reducible refine Ent.oR ?_ | with_reducible refine Ent.trans (oR.drop _ _ _) ?_ | with_reducible refine Ent.trans (Ent.drop _ _) ?_)
  · repeat' (first | with_reducible (first | refine go1 ?_ | refine sct ?_ | refine scf ?_ | refine sgr ?_) | (with_reducible refine sc_cond (fun h => ?_) (fun h => ?_)) <;> (try (exfalso; first | contradiction | omega | exact h Iff.rfl)) | fail)
    refine sq_ret1 Tryd.results7 ?_
    refine ⟨_, ⟨rfl, rfl⟩, ?_⟩
    repeat' (first | with_reducible exact Ent.refl _ | with_reducible refine Ent.take_eq ?_ ?_ | rfl | with_reducible refine Ent.oR ?_ | with_reducible refine Ent.trans (oR.drop _ _ _) ?_ | with_reducible refine Ent.trans (Ent.drop _ _) ?_)
end Go.Gsl
