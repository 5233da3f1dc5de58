/- An assertion between two parts of a code: what stands behind a switch is shown once. -/
import Derived.Test.YtjfieigjicbldaaDoorGG
import Derived.Test.YtjfieigjicbldaaDoorGVD
import Derived.Test.YtjfieigjicbldaaDoorGNC
import Derived.Test.YtjfieigjicbldaaDoorGZ
import Derived.Test.YtjfieigjicbldaaDoorGE
namespace Go.Gsl
set_option linter.unusedVariables false
section
variable {P : Program} {Q : Cont} {n : Nat} {w0 : World} {e : Env} {Rs : List Res}
/-- what is asked behind the first part (the measure has no meaning here) -/
abbrev midM {α : Type} : Option α → Nat
  | none => 1
  | some _ => 0
abbrev midI {α : Type} (I : α → Env) : Option α → Env
  | none => []
  | some a => I a
abbrev midR {α : Type} (R : α → List Res) : Option α → List Res
  | none => []
  | some a => R a
theorem sc_mid0 {α : Type} (I : α → Env) (R : α → List Res) {x y : Code} (h1 : SC P (Q.round n w0 (midI I) (midR R) midM none) n w0 x e Rs) (h2 : ∀ a e0, SC P Q n w0 y (I a ++ e0) (R a)) : SC P Q n w0 (.seq x y) e Rs := by
  intro w hw
  refine wpIn_seq (Code.wpIn_mono (fun x a w hq => ?_) (h1 w hw))
  cases x with
  | normal =>
    obtain ⟨x', hlt, e', rfl, hs⟩ := hq
    cases x' with
    | none => exact absurd hlt (Nat.lt_irrefl _)
    | some b => exact h2 b e' w hs
  | exit id => exact hq
  | goto l => exact hq
  | ret => exact hq
  | panic ch => exact hq
  | outgrown => exact hq
/-- behind a switch: a region and a block -/
theorem sc_mid {α : Type} (I : α → Env) (R : α → List Res) {id id2 : Nat} {l : Array Oper} {b : Bool} {x y : Code} (h1 : SC P (Q.round n w0 (midI I) (midR R) midM none) n w0 (.seq (.region id l b) (.block id2 x)) e Rs) (h2 : ∀ a e0, SC P Q n w0 y (I a ++ e0) (R a)) : SC P Q n w0 (.seq (.seq (.region id l b) (.block id2 x)) y) e Rs := sc_mid0 I R h1 h2
theorem sq_mid {α : Type} {I : α → Env} {R : α → List Res} (a : α) (hs : says e (I a)) (hR : Ent Rs (R a)) : SQ (Q.round n w0 (midI I) (midR R) midM none) n w0 .normal e Rs :=
  sq_round (some a) (show 0 < 1 from Nat.zero_lt_one) hs hR
end
end Go.Gsl

namespace Go.Gsl
set_option linter.unusedVariables false
open Go.Proofs

theorem sItoa_ok (W : World) (hT : Tabs Tryd.prog W) (k : Int) (hk : -9223372036854775808 ≤ k ∧ k ≤ 9223372036854775807) : Spec Tryd.prog 39 [.int .i64 k] [0] [ro W]
    fun F v Rs' => v = .string (sB (Lib.itoa k)) ∧ Rs' = (0, ro W) :: F := by
  refine spec_of Tryd.func39 rfl Tryd.ntmps39 rfl ?_
  intro w0 F
  repeat' (first | with_reducible (first | refine go1 ?_ | refine sct ?_ | refine scf ?_ | refine sgr ?_) | ((with_reducible refine sw_callf (itoa_ok W hT k hk) ?_); rintro _ _ ⟨rfl, rfl⟩) | fail)
  refine sq_ret1 Tryd.results39 ?_
  exact ⟨_, ⟨rfl, rfl⟩, Ent.refl _⟩

def kC (b : Bool) : UInt8 := if b then 49 else 48
theorem kTxt_ne {k : List Bool} (h : k ≠ []) : kTxt k = k.map kC := by unfold kTxt; rw [if_neg h]; rfl
set_option maxHeartbeats 2000000 in
theorem sKeepsOf_ok (K : Nat) (r : HProp) (kv : Value) (k : List Bool) (hk : RdK r kv k) (hl : k.length ≤ 268435456) : Spec Tryd.prog 41 [kv] [K] [r]
    fun F v Rs' => v = .string (sB (kTxt k)) ∧ Rs' = (K, r) :: F := by
  obtain ⟨a, c, rfl, ha, hra⟩ := hk
  refine spec_of Tryd.func41 rfl Tryd.ntmps41 rfl ?_
  intro w0 F
  repeat' (first | with_reducible (first | refine go1 ?_ | refine sct ?_ | refine scf ?_ | refine sgr ?_) | (with_reducible refine sc_cond (fun h => ?_) (fun h => ?_)) <;> (try (exfalso; first | contradiction | omega | exact h Iff.rfl)) | fail)
  · refine sq_ret1 Tryd.results41 ?_
    have hk0 : k = [] := List.length_eq_zero_iff.1 (by omega)
    subst hk0
    exact ⟨_, ⟨rfl, rfl⟩, Ent.refl _⟩
  have hk0 : k ≠ [] := fun g => h (by rw [g]; rfl)
  rw [kTxt_ne hk0]
  refine sc_loop (α := { x : Nat × Option (Nat × List Value) // x.1 ≤ k.length ∧ (x.2 = none → (k.take x.1).map kC = []) })
    (fun x => [(9, .slice a k.length c), (10, .int .i64 (k.length : Int)), (11, .int .i64 (x.1.1 : Int)), (3, bufV (((k.take x.1.1).map kC).map iv).length x.1.2)])
    (fun x => oR (vG .u8 5 (((k.take x.1.1).map kC).map iv)) ((K, r) :: F) x.1.2) (fun x => k.length - x.1.1) ⟨(0, none), Nat.zero_le _, fun _ => rfl⟩ ?_ ?_ ?_
  · repeat' (first | exact says_nil | refine says_cons rfl ?_ | refine says_cons (by simp) ?_)
  · exact Ent.refl _
  rintro ⟨⟨i, o⟩, hi, ho⟩ e
  simp only at hi ho
  simp only [List.cons_append, List.nil_append]
  have hol : o = none → ((k.take i).map kC).map iv = [] := fun h => by rw [ho h]; rfl
  have hal : (((k.take i).map kC).map iv).length ≤ k.length := by rw [List.length_map, List.length_map, List.length_take]; omega
  by_cases hil : i < k.length
  · obtain ⟨b, o', rfl⟩ := ha (by omega)
    have h1 := boolC_at (getD_some false hil)
    have hst : (k.take (i + 1)).map kC = (k.take i).map kC ++ [kC (k.getD i false)] := by rw [List.take_add_one, getD_some false hil]; simp
    generalize k.getD i false = u at *
    repeat' (first | with_reducible refine sw_in (by omega) ?_ | with_reducible (first | refine go1 ?_ | refine sct ?_ | refine scf ?_ | refine sgr ?_) | with_reducible refine sw_indexN i ⟨rfl, by omega⟩ ?_ | with_reducible refine sw_op (h := runop_load_rdS K i (.bool u) hra h1 (by omega)) ?_ | with_reducible refine sw_build1 fun b7 => ?_ | (with_reducible refine sc_cond (fun h => ?_) (fun h => ?_)) <;> (try (exfalso; first | contradiction | omega | exact h Iff.rfl)) | fail)
    · have hu : kC u = 49 := by rw [show u = true by simpa using h]; rfl
      rw [hu] at hst
      refine sw_appendV1 (kd := .u8) (b7 := b7) (((k.take i).map kC).map iv) (iv 49) o hol ⟨by omega, by omega⟩ fun o2 ho2 => ?_
      repeat' (first | with_reducible refine sw_in (by omega) ?_ | with_reducible (first | refine go1 ?_ | refine sct ?_ | refine scf ?_ | refine sgr ?_) | fail)
      refine sq_round ⟨(i + 1, o2), by omega, fun h => absurd h ho2⟩ (by show k.length - (i + 1) < k.length - i; omega) ?_ ?_
      · show says _ [(9, .slice (some ⟨b, o', none⟩) k.length c), (10, .int .i64 (k.length : Int)), (11, .int .i64 ((i + 1 : Nat) : Int)), (3, bufV (((k.take (i + 1)).map kC).map iv).length o2)]
        rw [hst]; simp only [List.map_append, List.map_cons, List.map_nil]
        repeat' (first | exact says_nil | refine says_cons rfl ?_ | refine says_cons (by simp) ?_)
      · show Ent _ (oR (vG .u8 5 (((k.take (i + 1)).map kC).map iv)) ((K, r) :: F) o2)
        rw [hst]; simp only [List.map_append, List.map_cons, List.map_nil]
        repeat' (first | with_reducible exact Ent.refl _ | with_reducible refine Ent.take_eq ?_ ?_ | rfl | with_reducible refine Ent.oR ?_ | with_reducible refine Ent.trans (oR.drop _ _ _) ?_ | with_reducible refine Ent.trans (Ent.drop _ _) ?_)
    · have hu : kC u = 48 := by rw [show u = false by simpa using h]; rfl
      rw [hu] at hst
      refine sw_appendV1 (kd := .u8) (b7 := b7) (((k.take i).map kC).map iv) (iv 48) o hol ⟨by omega, by omega⟩ fun o2 ho2 => ?_
      repeat' (first | with_reducible refine sw_in (by omega) ?_ | with_reducible (first | refine go1 ?_ | refine sct ?_ | refine scf ?_ | refine sgr ?_) | fail)
      refine sq_round ⟨(i + 1, o2), by omega, fun h => absurd h ho2⟩ (by show k.length - (i + 1) < k.length - i; omega) ?_ ?_
      · show says _ [(9, .slice (some ⟨b, o', none⟩) k.length c), (10, .int .i64 (k.length : Int)), (11, .int .i64 ((i + 1 : Nat) : Int)), (3, bufV (((k.take (i + 1)).map kC).map iv).length o2)]
        rw [hst]; simp only [List.map_append, List.map_cons, List.map_nil]
        repeat' (first | exact says_nil | refine says_cons rfl ?_ | refine says_cons (by simp) ?_)
      · show Ent _ (oR (vG .u8 5 (((k.take (i + 1)).map kC).map iv)) ((K, r) :: F) o2)
        rw [hst]; simp only [List.map_append, List.map_cons, List.map_nil]
        repeat' (first | with_reducible exact Ent.refl _ | with_reducible refine Ent.take_eq ?_ ?_ | rfl | with_reducible refine Ent.oR ?_ | with_reducible refine Ent.trans (oR.drop _ _ _) ?_ | with_reducible refine Ent.trans (Ent.drop _ _) ?_)
  · have hie : i = k.length := by omega
    subst hie
    repeat' (first | with_reducible (first | refine go1 ?_ | refine sct ?_ | refine scf ?_ | refine sgr ?_) | (with_reducible refine sc_cond (fun h => ?_) (fun h => ?_)) <;> (try (exfalso; first | contradiction | omega | exact h Iff.rfl)) | fail)
    refine sw_bytesV (el' := 5) ((k.take k.length).map kC) o ho ?_
    repeat' (first | with_reducible (first | refine go1 ?_ | refine sct ?_ | refine scf ?_ | refine sgr ?_) | fail)
    refine sq_ret1 Tryd.results41 ?_
    refine ⟨_, ⟨by rw [List.take_length], rfl⟩, ?_⟩
    repeat' (first | with_reducible exact Ent.refl _ | with_reducible refine Ent.take_eq ?_ ?_ | rfl | with_reducible refine Ent.oR ?_ | with_reducible refine Ent.trans (oR.drop _ _ _) ?_ | with_reducible refine Ent.trans (Ent.drop _ _) ?_)

/-- a row of texts just made -/
def StrRow (l : Option (List Tok)) (F : List Res) (v : Value) (Rs' : List Res) : Prop := match l with
  | none => v = .slice none 0 0 ∧ Rs' = F
  | some l => ∃ b, v = .slice (some ⟨b, 0, none⟩) l.length l.length ∧ Rs' = (b, pts b (.cells (strC (l.map tokT)).toArray 9 (0, 0))) :: F

set_option maxHeartbeats 4000000 in
theorem sCallLine_ok (W : World) (hT : Tabs Tryd.prog W) (n kind level : Int) (key value low high : Bs) (hn : -9223372036854775808 ≤ n ∧ n ≤ 9223372036854775807) (h1 : key.length ≤ 1048576) (h2 : value.length ≤ 1048576) (h3 : low.length ≤ 1048576) (h4 : high.length ≤ 1048576) :
    Spec Tryd.prog 40 [.int .i64 n, .agg ([.int .i64 kind, .int .i64 level, .string (sB key), .string (sB value), .string (sB low), .string (sB high)] : List Value).toArray] [0] [ro W]
    fun F v Rs' => StrRow (callT n ⟨kind, level, key, value, low, high⟩) ((0, ro W) :: F) v Rs' := by
  have hI := sItoa_ok W hT n hn
  have hK := sQuote_ok key h1
  have hV := sQuote_ok value h2
  have hL := sQuote_ok low h3
  have hH := sQuote_ok high h4
  refine spec_of Tryd.func40 rfl Tryd.ntmps40 rfl ?_
  intro w0 F
  repeat' (first | with_reducible (first | refine go1 ?_ | refine sct ?_ | refine scf ?_ | refine sgr ?_) | fail)
  refine sw_box fun b3 => ?_
  repeat' (first | with_reducible (first | refine go1 ?_ | refine sct ?_ | refine scf ?_ | refine sgr ?_) | ((with_reducible refine sw_callf hK ?_); rintro _ _ ⟨rfl, rfl⟩) | ((with_reducible refine sw_callf hI ?_); rintro _ _ ⟨rfl, rfl⟩) | (with_reducible refine sc_cond (fun h => ?_) (fun h => ?_)) <;> (try (exfalso; first | contradiction | omega | exact h Iff.rfl)) | fail)
  · refine sw_buildSlice (strC ([pw wBegin, pw (Lib.itoa n), pw wSerial].map tokT)) (by omega) (by kernel_rfl) fun b7 => ?_
    repeat' (first | with_reducible (first | refine go1 ?_ | refine sct ?_ | refine scf ?_ | refine sgr ?_) | fail)
    refine sq_ret1 Tryd.results40 ?_
    have hc : callT n ⟨kind, level, key, value, low, high⟩ = some [pw wBegin, pw (Lib.itoa n), pw wSerial] := by unfold callT; simp only; repeat (first | rw [if_pos (by assumption)] | rw [if_neg (by assumption)])
    rw [hc]
    refine ⟨_, ⟨b7, rfl, rfl⟩, ?_⟩
    repeat' (first | with_reducible exact Ent.refl _ | with_reducible refine Ent.take_eq ?_ ?_ | rfl | with_reducible refine Ent.oR ?_ | with_reducible refine Ent.trans (oR.drop _ _ _) ?_ | with_reducible refine Ent.trans (Ent.drop _ _) ?_)
  · refine sw_buildSlice (strC ([pw wBegin, pw (Lib.itoa n), pw wSnapshot].map tokT)) (by omega) (by kernel_rfl) fun b7 => ?_
    repeat' (first | with_reducible (first | refine go1 ?_ | refine sct ?_ | refine scf ?_ | refine sgr ?_) | fail)
    refine sq_ret1 Tryd.results40 ?_
    have hc : callT n ⟨kind, level, key, value, low, high⟩ = some [pw wBegin, pw (Lib.itoa n), pw wSnapshot] := by unfold callT; simp only; repeat (first | rw [if_pos (by assumption)] | rw [if_neg (by assumption)])
    rw [hc]
    refine ⟨_, ⟨b7, rfl, rfl⟩, ?_⟩
    repeat' (first | with_reducible exact Ent.refl _ | with_reducible refine Ent.take_eq ?_ ?_ | rfl | with_reducible refine Ent.oR ?_ | with_reducible refine Ent.trans (oR.drop _ _ _) ?_ | with_reducible refine Ent.trans (Ent.drop _ _) ?_)
  · refine sw_buildSlice (strC ([pw wGet, pw (Lib.itoa n), tx key].map tokT)) (by omega) (by kernel_rfl) fun b7 => ?_
    repeat' (first | with_reducible (first | refine go1 ?_ | refine sct ?_ | refine scf ?_ | refine sgr ?_) | fail)
    refine sq_ret1 Tryd.results40 ?_
    have hc : callT n ⟨kind, level, key, value, low, high⟩ = some [pw wGet, pw (Lib.itoa n), tx key] := by unfold callT; simp only; repeat (first | rw [if_pos (by assumption)] | rw [if_neg (by assumption)])
    rw [hc]
    refine ⟨_, ⟨b7, rfl, rfl⟩, ?_⟩
    repeat' (first | with_reducible exact Ent.refl _ | with_reducible refine Ent.take_eq ?_ ?_ | rfl | with_reducible refine Ent.oR ?_ | with_reducible refine Ent.trans (oR.drop _ _ _) ?_ | with_reducible refine Ent.trans (Ent.drop _ _) ?_)
  · refine sc_lin ([(b3, pts b3 (.cells ([.int .i64 kind, .int .i64 level, .string (sB key), .string (sB value), .string (sB low), .string (sB high)] : List Value).toArray 44 (0, 0)))]) (llp 0 (llp 2 (llp 3 (llp 4 (lle 1 (lle 5 (lle 6 (llp 7 ll0)))))))) (by kernel_rfl) rfl (by kernel_rfl) ?_
    all_goals (iterate 4 refine go1l ?_)
    all_goals refine sl_eff ?_
    all_goals (repeat' (first | with_reducible (first | refine go1 ?_ | refine sct ?_ | refine scf ?_ | refine sgr ?_) | ((with_reducible refine sw_callf hV ?_); rintro _ _ ⟨rfl, rfl⟩) | ((with_reducible refine sw_callf hI ?_); rintro _ _ ⟨rfl, rfl⟩) | with_reducible refine sw_buildSlice (strC ([pw wPut, pw (Lib.itoa n), tx key, tx value].map tokT)) (by omega) (by kernel_rfl) fun b7 => ?_ | with_reducible refine sl_back ?_ | fail))
    all_goals refine sl_eff ?_
    all_goals (repeat' (first | with_reducible (first | refine go1 ?_ | refine sct ?_ | refine scf ?_ | refine sgr ?_) | ((with_reducible refine sw_callf hV ?_); rintro _ _ ⟨rfl, rfl⟩) | ((with_reducible refine sw_callf hI ?_); rintro _ _ ⟨rfl, rfl⟩) | with_reducible refine sw_buildSlice (strC ([pw wPut, pw (Lib.itoa n), tx key, tx value].map tokT)) (by omega) (by kernel_rfl) fun b7 => ?_ | with_reducible refine sl_back ?_ | fail))
    all_goals refine sl_eff ?_
    all_goals (repeat' (first | with_reducible (first | refine go1 ?_ | refine sct ?_ | refine scf ?_ | refine sgr ?_) | ((with_reducible refine sw_callf hV ?_); rintro _ _ ⟨rfl, rfl⟩) | ((with_reducible refine sw_callf hI ?_); rintro _ _ ⟨rfl, rfl⟩) | with_reducible refine sw_buildSlice (strC ([pw wPut, pw (Lib.itoa n), tx key, tx value].map tokT)) (by omega) (by kernel_rfl) fun b7 => ?_ | with_reducible refine sl_back ?_ | fail))
    all_goals refine go1l ?_
    all_goals refine sl_done ?_
    all_goals (repeat' (first | with_reducible (first | refine go1 ?_ | refine sct ?_ | refine scf ?_ | refine sgr ?_) | fail))
    all_goals (refine sq_ret1 Tryd.results40 ?_)
    all_goals (have hc : callT n ⟨kind, level, key, value, low, high⟩ = some [pw wPut, pw (Lib.itoa n), tx key, tx value] := by unfold callT; simp only; repeat (first | rw [if_pos (by assumption)] | rw [if_neg (by assumption)]))
    all_goals rw [hc]
    all_goals refine ⟨_, ⟨_, rfl, rfl⟩, ?_⟩
    all_goals (repeat' (first | with_reducible exact Ent.refl _ | with_reducible refine Ent.take_eq ?_ ?_ | rfl | with_reducible refine Ent.oR ?_ | with_reducible refine Ent.trans (oR.drop _ _ _) ?_ | with_reducible refine Ent.trans (Ent.drop _ _) ?_))
  · refine sw_buildSlice (strC ([pw wDelete, pw (Lib.itoa n), tx key].map tokT)) (by omega) (by kernel_rfl) fun b7 => ?_
    repeat' (first | with_reducible (first | refine go1 ?_ | refine sct ?_ | refine scf ?_ | refine sgr ?_) | fail)
    refine sq_ret1 Tryd.results40 ?_
    have hc : callT n ⟨kind, level, key, value, low, high⟩ = some [pw wDelete, pw (Lib.itoa n), tx key] := by unfold callT; simp only; repeat (first | rw [if_pos (by assumption)] | rw [if_neg (by assumption)])
    rw [hc]
    refine ⟨_, ⟨b7, rfl, rfl⟩, ?_⟩
    repeat' (first | with_reducible exact Ent.refl _ | with_reducible refine Ent.take_eq ?_ ?_ | rfl | with_reducible refine Ent.oR ?_ | with_reducible refine Ent.trans (oR.drop _ _ _) ?_ | with_reducible refine Ent.trans (Ent.drop _ _) ?_)
  · refine sc_lin ([(b3, pts b3 (.cells ([.int .i64 kind, .int .i64 level, .string (sB key), .string (sB value), .string (sB low), .string (sB high)] : List Value).toArray 44 (0, 0)))]) (llp 0 (llp 2 (llp 3 (llp 4 (llp 6 (llp 7 (llp 8 (lle 1 (lle 5 (lle 9 (lle 10 (llp 11 ll0)))))))))))) (by kernel_rfl) rfl (by kernel_rfl) ?_
    all_goals (iterate 7 refine go1l ?_)
    all_goals refine sl_eff ?_
    all_goals (repeat' (first | with_reducible (first | refine go1 ?_ | refine sct ?_ | refine scf ?_ | refine sgr ?_) | ((with_reducible refine sw_callf hL ?_); rintro _ _ ⟨rfl, rfl⟩) | ((with_reducible refine sw_callf hH ?_); rintro _ _ ⟨rfl, rfl⟩) | ((with_reducible refine sw_callf hI ?_); rintro _ _ ⟨rfl, rfl⟩) | with_reducible refine sw_buildSlice (strC ([pw wScan, pw (Lib.itoa n), tx low, tx high].map tokT)) (by omega) (by kernel_rfl) fun b7 => ?_ | with_reducible refine sl_back ?_ | fail))
    all_goals refine sl_eff ?_
    all_goals (repeat' (first | with_reducible (first | refine go1 ?_ | refine sct ?_ | refine scf ?_ | refine sgr ?_) | ((with_reducible refine sw_callf hL ?_); rintro _ _ ⟨rfl, rfl⟩) | ((with_reducible refine sw_callf hH ?_); rintro _ _ ⟨rfl, rfl⟩) | ((with_reducible refine sw_callf hI ?_); rintro _ _ ⟨rfl, rfl⟩) | with_reducible refine sw_buildSlice (strC ([pw wScan, pw (Lib.itoa n), tx low, tx high].map tokT)) (by omega) (by kernel_rfl) fun b7 => ?_ | with_reducible refine sl_back ?_ | fail))
    all_goals refine sl_eff ?_
    all_goals (repeat' (first | with_reducible (first | refine go1 ?_ | refine sct ?_ | refine scf ?_ | refine sgr ?_) | ((with_reducible refine sw_callf hL ?_); rintro _ _ ⟨rfl, rfl⟩) | ((with_reducible refine sw_callf hH ?_); rintro _ _ ⟨rfl, rfl⟩) | ((with_reducible refine sw_callf hI ?_); rintro _ _ ⟨rfl, rfl⟩) | with_reducible refine sw_buildSlice (strC ([pw wScan, pw (Lib.itoa n), tx low, tx high].map tokT)) (by omega) (by kernel_rfl) fun b7 => ?_ | with_reducible refine sl_back ?_ | fail))
    all_goals refine sl_eff ?_
    all_goals (repeat' (first | with_reducible (first | refine go1 ?_ | refine sct ?_ | refine scf ?_ | refine sgr ?_) | ((with_reducible refine sw_callf hL ?_); rintro _ _ ⟨rfl, rfl⟩) | ((with_reducible refine sw_callf hH ?_); rintro _ _ ⟨rfl, rfl⟩) | ((with_reducible refine sw_callf hI ?_); rintro _ _ ⟨rfl, rfl⟩) | with_reducible refine sw_buildSlice (strC ([pw wScan, pw (Lib.itoa n), tx low, tx high].map tokT)) (by omega) (by kernel_rfl) fun b7 => ?_ | with_reducible refine sl_back ?_ | fail))
    all_goals refine go1l ?_
    all_goals refine sl_done ?_
    all_goals (repeat' (first | with_reducible (first | refine go1 ?_ | refine sct ?_ | refine scf ?_ | refine sgr ?_) | fail))
    all_goals (refine sq_ret1 Tryd.results40 ?_)
    all_goals (have hc : callT n ⟨kind, level, key, value, low, high⟩ = some [pw wScan, pw (Lib.itoa n), tx low, tx high] := by unfold callT; simp only; repeat (first | rw [if_pos (by assumption)] | rw [if_neg (by assumption)]))
    all_goals rw [hc]
    all_goals refine ⟨_, ⟨_, rfl, rfl⟩, ?_⟩
    all_goals (repeat' (first | with_reducible exact Ent.refl _ | with_reducible refine Ent.take_eq ?_ ?_ | rfl | with_reducible refine Ent.oR ?_ | with_reducible refine Ent.trans (oR.drop _ _ _) ?_ | with_reducible refine Ent.trans (Ent.drop _ _) ?_))
  · refine sw_buildSlice (strC ([pw wCommit, pw (Lib.itoa n)].map tokT)) (by omega) (by kernel_rfl) fun b7 => ?_
    repeat' (first | with_reducible (first | refine go1 ?_ | refine sct ?_ | refine scf ?_ | refine sgr ?_) | fail)
    refine sq_ret1 Tryd.results40 ?_
    have hc : callT n ⟨kind, level, key, value, low, high⟩ = some [pw wCommit, pw (Lib.itoa n)] := by unfold callT; simp only; repeat (first | rw [if_pos (by assumption)] | rw [if_neg (by assumption)])
    rw [hc]
    refine ⟨_, ⟨b7, rfl, rfl⟩, ?_⟩
    repeat' (first | with_reducible exact Ent.refl _ | with_reducible refine Ent.take_eq ?_ ?_ | rfl | with_reducible refine Ent.oR ?_ | with_reducible refine Ent.trans (oR.drop _ _ _) ?_ | with_reducible refine Ent.trans (Ent.drop _ _) ?_)
  · refine sw_buildSlice (strC ([pw wAbort, pw (Lib.itoa n)].map tokT)) (by omega) (by kernel_rfl) fun b7 => ?_
    repeat' (first | with_reducible (first | refine go1 ?_ | refine sct ?_ | refine scf ?_ | refine sgr ?_) | fail)
    refine sq_ret1 Tryd.results40 ?_
    have hc : callT n ⟨kind, level, key, value, low, high⟩ = some [pw wAbort, pw (Lib.itoa n)] := by unfold callT; simp only; repeat (first | rw [if_pos (by assumption)] | rw [if_neg (by assumption)])
    rw [hc]
    refine ⟨_, ⟨b7, rfl, rfl⟩, ?_⟩
    repeat' (first | with_reducible exact Ent.refl _ | with_reducible refine Ent.take_eq ?_ ?_ | rfl | with_reducible refine Ent.oR ?_ | with_reducible refine Ent.trans (oR.drop _ _ _) ?_ | with_reducible refine Ent.trans (Ent.drop _ _) ?_)
  · refine sw_buildSlice (strC ([pw wEpoch].map tokT)) (by omega) (by kernel_rfl) fun b7 => ?_
    repeat' (first | with_reducible (first | refine go1 ?_ | refine sct ?_ | refine scf ?_ | refine sgr ?_) | fail)
    refine sq_ret1 Tryd.results40 ?_
    have hc : callT n ⟨kind, level, key, value, low, high⟩ = some [pw wEpoch] := by unfold callT; simp only; repeat (first | rw [if_pos (by assumption)] | rw [if_neg (by assumption)])
    rw [hc]
    refine ⟨_, ⟨b7, rfl, rfl⟩, ?_⟩
    repeat' (first | with_reducible exact Ent.refl _ | with_reducible refine Ent.take_eq ?_ ?_ | rfl | with_reducible refine Ent.oR ?_ | with_reducible refine Ent.trans (oR.drop _ _ _) ?_ | with_reducible refine Ent.trans (Ent.drop _ _) ?_)
  · refine sw_buildSlice (strC ([pw wPrune, tx key].map tokT)) (by omega) (by kernel_rfl) fun b7 => ?_
    repeat' (first | with_reducible (first | refine go1 ?_ | refine sct ?_ | refine scf ?_ | refine sgr ?_) | fail)
    refine sq_ret1 Tryd.results40 ?_
    have hc : callT n ⟨kind, level, key, value, low, high⟩ = some [pw wPrune, tx key] := by unfold callT; simp only; repeat (first | rw [if_pos (by assumption)] | rw [if_neg (by assumption)])
    rw [hc]
    refine ⟨_, ⟨b7, rfl, rfl⟩, ?_⟩
    repeat' (first | with_reducible exact Ent.refl _ | with_reducible refine Ent.take_eq ?_ ?_ | rfl | with_reducible refine Ent.oR ?_ | with_reducible refine Ent.trans (oR.drop _ _ _) ?_ | with_reducible refine Ent.trans (Ent.drop _ _) ?_)
  · refine sw_buildSlice (strC ([pw wShrink, tx key].map tokT)) (by omega) (by kernel_rfl) fun b7 => ?_
    repeat' (first | with_reducible (first | refine go1 ?_ | refine sct ?_ | refine scf ?_ | refine sgr ?_) | fail)
    refine sq_ret1 Tryd.results40 ?_
    have hc : callT n ⟨kind, level, key, value, low, high⟩ = some [pw wShrink, tx key] := by unfold callT; simp only; repeat (first | rw [if_pos (by assumption)] | rw [if_neg (by assumption)])
    rw [hc]
    refine ⟨_, ⟨b7, rfl, rfl⟩, ?_⟩
    repeat' (first | with_reducible exact Ent.refl _ | with_reducible refine Ent.take_eq ?_ ?_ | rfl | with_reducible refine Ent.oR ?_ | with_reducible refine Ent.trans (oR.drop _ _ _) ?_ | with_reducible refine Ent.trans (Ent.drop _ _) ?_)
  · refine sw_buildSlice (strC ([pw wSave].map tokT)) (by omega) (by kernel_rfl) fun b7 => ?_
    repeat' (first | with_reducible (first | refine go1 ?_ | refine sct ?_ | refine scf ?_ | refine sgr ?_) | fail)
    refine sq_ret1 Tryd.results40 ?_
    have hc : callT n ⟨kind, level, key, value, low, high⟩ = some [pw wSave] := by unfold callT; simp only; repeat (first | rw [if_pos (by assumption)] | rw [if_neg (by assumption)])
    rw [hc]
    refine ⟨_, ⟨b7, rfl, rfl⟩, ?_⟩
    repeat' (first | with_reducible exact Ent.refl _ | with_reducible refine Ent.take_eq ?_ ?_ | rfl | with_reducible refine Ent.oR ?_ | with_reducible refine Ent.trans (oR.drop _ _ _) ?_ | with_reducible refine Ent.trans (Ent.drop _ _) ?_)
  · refine sw_buildSlice (strC ([pw wForget].map tokT)) (by omega) (by kernel_rfl) fun b7 => ?_
    repeat' (first | with_reducible (first | refine go1 ?_ | refine sct ?_ | refine scf ?_ | refine sgr ?_) | fail)
    refine sq_ret1 Tryd.results40 ?_
    have hc : callT n ⟨kind, level, key, value, low, high⟩ = some [pw wForget] := by unfold callT; simp only; repeat (first | rw [if_pos (by assumption)] | rw [if_neg (by assumption)])
    rw [hc]
    refine ⟨_, ⟨b7, rfl, rfl⟩, ?_⟩
    repeat' (first | with_reducible exact Ent.refl _ | with_reducible refine Ent.take_eq ?_ ?_ | rfl | with_reducible refine Ent.oR ?_ | with_reducible refine Ent.trans (oR.drop _ _ _) ?_ | with_reducible refine Ent.trans (Ent.drop _ _) ?_)
  · refine sq_ret1 Tryd.results40 ?_
    have hc : callT n ⟨kind, level, key, value, low, high⟩ = none := by unfold callT; simp only; repeat (first | rw [if_pos (by assumption)] | rw [if_neg (by assumption)])
    rw [hc]
    refine ⟨_, ⟨rfl, rfl⟩, ?_⟩
    repeat' (first | with_reducible exact Ent.refl _ | with_reducible refine Ent.take_eq ?_ ?_ | rfl | with_reducible refine Ent.oR ?_ | with_reducible refine Ent.trans (oR.drop _ _ _) ?_ | with_reducible refine Ent.trans (Ent.drop _ _) ?_)
end Go.Gsl

namespace Go.Gsl
set_option linter.unusedVariables false
open Go.Proofs Go.Shelf

/-- texts in a row that is read -/
def RdT (r : HProp) (v : Value) (xs : List Bs) : Prop := ∃ a c, v = .slice a xs.length c ∧ xs.length ≤ c ∧ (0 < xs.length → ∃ b o, a = some ⟨b, o, none⟩) ∧ Reads r a (strC xs)
theorem joinR_ok (K : Nat) (r : HProp) (v : Value) (xs : List Bs) (sep : UInt8) (h : RdT r v xs) (hl : (Lib.join xs [sep]).length ≤ 281474976710656) (hn : xs.length ≤ 1073741824) : Spec Tryd.prog 16 [v, .string (sB [sep])] [K] [r]
    fun F v Rs' => v = .string (sB (Lib.join xs [sep])) ∧ Rs' = (K, r) :: F := by
  intro w0 F w hw
  have hw' : Sat w0 w ((K, r) :: F) := hw
  obtain ⟨a, c, rfl, hc, ha, hr⟩ := h
  cases xs with
  | nil =>
    refine Calls.mono (Any.strings_Join_none Tryd.laysJoin joinX a c (sB [sep]) w) ?_
    rintro e w' ⟨rfl, rfl⟩
    exact ⟨_, _, rfl, ⟨rfl, rfl⟩, hw'⟩
  | cons x0 xs =>
    obtain ⟨b, o, rfl⟩ := ha (by simp)
    have hs := hr.sat (t := Take.here K r F) hw'
    have hcw : ∀ (j : Nat) y, ((x0 :: xs).map sB)[j]? = some y → w.cell? ⟨b, o + j, none⟩ = some (.string y) := by
      intro j y hy
      rw [List.getElem?_map] at hy
      obtain ⟨z, hz, rfl⟩ := Option.map_eq_some_iff.1 hy
      obtain ⟨ad, h1, h2⟩ := hs j (.string (sB z)) (by unfold strC; rw [List.getElem?_map, hz]; rfl)
      cases h1
      rw [add_plain] at h2
      exact h2
    have hbw : b < w.heap.size := lt_of_cell (hcw 0 (sB x0) rfl)
    have hmap : ((x0 :: xs).map sB).map (fun s : ByteArray => s.data.toList) = x0 :: xs := by
      rw [List.map_map]
      conv => rhs; rw [← List.map_id (x0 :: xs)]
      apply List.map_congr_left
      intro s _
      simp
    have hj : (Lib.join (((x0 :: xs).map sB).map (·.data.toList)) (sB [sep]).data.toList) = Lib.join (x0 :: xs) [sep] := by rw [hmap]
    have := Any.strings_Join_48 Tryd.laysJoin joinX b o c ((x0 :: xs).map sB) (sB [sep]) w hcw hbw (by rw [List.length_map]; omega) (by rw [List.length_map]; exact hc) (by rw [hj]; exact hl)
    rw [hj, List.length_map] at this
    refine Calls.mono this ?_
    rintro e w' ⟨rfl, hb⟩
    exact ⟨_, _, rfl, ⟨rfl, rfl⟩, hw'.below hb⟩
theorem sJoinR_ok (K : Nat) (r : HProp) (v : Value) (xs : List Bs) (h : RdT r v xs) (hl : (Lib.join xs [32]).length ≤ 281474976710656) (hn : xs.length ≤ 1073741824) : Spec Tryd.prog 15 [v] [K] [r]
    fun F v Rs' => v = .string (sB (Lib.join xs [32])) ∧ Rs' = (K, r) :: F := by
  have hJ := joinR_ok K r v xs 32 h hl hn
  refine spec_of Tryd.func15 rfl Tryd.ntmps15 rfl ?_
  intro w0 F
  repeat' (first | with_reducible (first | refine go1 ?_ | refine sct ?_ | refine scf ?_ | refine sgr ?_) | ((with_reducible refine sw_callf hJ ?_); rintro _ _ ⟨rfl, rfl⟩) | fail)
  refine sq_ret1 Tryd.results15 ?_
  exact ⟨_, ⟨rfl, rfl⟩, Ent.refl _⟩

set_option maxHeartbeats 2000000 in
theorem lEqualB_ok (K : Nat) (r : HProp) (vx vy : Value) (x y : List Bool) (hx : RdK r vx x) (hy : RdK r vy y) (hl : x.length ≤ 1073741824) : Spec Tryd.prog 60 [vx, vy] [K] [r]
    fun F v Rs' => v = .bool (decide (x = y)) ∧ Rs' = (K, r) :: F := by
  obtain ⟨a, c, rfl, ha, hra⟩ := hx
  obtain ⟨a', c', rfl, ha', hra'⟩ := hy
  refine spec_of Tryd.func60 rfl Tryd.ntmps60 rfl ?_
  intro w0 F
  repeat' (first | with_reducible (first | refine go1 ?_ | refine sct ?_ | refine scf ?_ | refine sgr ?_) | (with_reducible refine sc_cond (fun h => ?_) (fun h => ?_)) <;> (try (exfalso; first | contradiction | omega | exact h Iff.rfl)) | fail)
  · refine sq_ret1 Tryd.results60 ?_
    refine ⟨_, ⟨by rw [decide_eq_false]; rintro rfl; exact h rfl, rfl⟩, Ent.refl _⟩
  have hlk : x.length = y.length := by omega
  refine sc_loop (α := { i : Nat // i ≤ x.length ∧ x.take i = y.take i }) (fun i => [(0, .slice a x.length c), (1, .slice a' y.length c'), (4, .bool false), (12, .int .i64 (x.length : Int)), (13, .int .i64 (i.1 : Int))])
    (fun _ => (K, r) :: F) (fun i => x.length - i.1) ⟨0, Nat.zero_le _, rfl⟩ ?_ ?_ ?_
  · repeat' (first | exact says_nil | refine says_cons rfl ?_ | refine says_cons (by simp) ?_)
  · repeat' (first | with_reducible exact Ent.refl _ | with_reducible refine Ent.take_eq ?_ ?_ | rfl | with_reducible refine Ent.oR ?_ | with_reducible refine Ent.trans (oR.drop _ _ _) ?_ | with_reducible refine Ent.trans (Ent.drop _ _) ?_)
  rintro ⟨i, hi, hik⟩ e
  simp only [List.cons_append, List.nil_append]
  by_cases hil : i < x.length
  · obtain ⟨b, o, rfl⟩ := ha (by omega)
    obtain ⟨b', o', rfl⟩ := ha' (by omega)
    have h1 := boolC_at (getD_some false hil)
    have h2 := boolC_at (getD_some false (show i < y.length by omega))
    have hbn := bools_ne hil (show i < y.length by omega)
    have hst := take_eq_step false hil (show i < y.length by omega) hik
    generalize x.getD i false = u at *
    generalize y.getD i false = u' at *
    repeat' (first | with_reducible refine sw_in (by omega) ?_ | with_reducible (first | refine go1 ?_ | refine sct ?_ | refine scf ?_ | refine sgr ?_) | (with_reducible refine sc_cond (fun h => ?_) (fun h => ?_)) <;> (try (exfalso; first | contradiction | omega | exact h Iff.rfl)) | fail)
    refine sc_lin ([(K, r)]) (llp 0 (llp 1 (llp 2 (llp 3 (llp 4 (llp 5 (llp 6 (llp 7 (llp 8 ll0))))))))) (by kernel_rfl) rfl (by kernel_rfl) ?_
    all_goals (iterate 2 refine go1l ?_)
    all_goals refine sl_take (h := runop_indexN i ⟨rfl, by omega⟩) ?_
    all_goals refine sl_take (h := runop_load_rdS K i (.bool u) hra h1 (by omega)) ?_
    all_goals (iterate 2 refine go1l ?_)
    all_goals refine sl_take (h := runop_indexN i ⟨rfl, by omega⟩) ?_
    all_goals refine sl_take (h := runop_load_rdS K i (.bool u') hra' h2 (by omega)) ?_
    all_goals refine go1l ?_
    all_goals refine sl_done ?_
    repeat' (first | with_reducible refine sw_in (by omega) ?_ | with_reducible (first | refine go1 ?_ | refine sct ?_ | refine scf ?_ | refine sgr ?_) | (with_reducible refine sc_cond (fun h => ?_) (fun h => ?_)) <;> (try (exfalso; first | contradiction | omega | exact h Iff.rfl)) | fail)
    · refine sq_ret1 Tryd.results60 ?_
      refine ⟨_, ⟨by rw [decide_eq_false (hbn (by simpa using h))], rfl⟩, ?_⟩
      repeat' (first | with_reducible exact Ent.refl _ | with_reducible refine Ent.take_eq ?_ ?_ | rfl | with_reducible refine Ent.oR ?_ | with_reducible refine Ent.trans (oR.drop _ _ _) ?_ | with_reducible refine Ent.trans (Ent.drop _ _) ?_)
    · refine sq_round ⟨i + 1, by omega, hst (by simpa using h)⟩ (by show x.length - (i + 1) < x.length - i; omega) ?_ ?_
      · repeat' (first | exact says_nil | refine says_cons rfl ?_ | refine says_cons (by simp) ?_)
      · repeat' (first | with_reducible exact Ent.refl _ | with_reducible refine Ent.take_eq ?_ ?_ | rfl | with_reducible refine Ent.oR ?_ | with_reducible refine Ent.trans (oR.drop _ _ _) ?_ | with_reducible refine Ent.trans (Ent.drop _ _) ?_)
  · repeat' (first | with_reducible refine sw_in (by omega) ?_ | with_reducible (first | refine go1 ?_ | refine sct ?_ | refine scf ?_ | refine sgr ?_) | (with_reducible refine sc_cond (fun h => ?_) (fun h => ?_)) <;> (try (exfalso; first | contradiction | omega | exact h Iff.rfl)) | fail)
    refine sq_ret1 Tryd.results60 ?_
    refine ⟨_, ⟨?_, rfl⟩, ?_⟩
    · rw [List.take_of_length_le (by omega), List.take_of_length_le (by omega)] at hik
      rw [decide_eq_true hik]
    · repeat' (first | with_reducible exact Ent.refl _ | with_reducible refine Ent.take_eq ?_ ?_ | rfl | with_reducible refine Ent.oR ?_ | with_reducible refine Ent.trans (oR.drop _ _ _) ?_ | with_reducible refine Ent.trans (Ent.drop _ _) ?_)

set_option maxHeartbeats 4000000 in
theorem sSameAct_ok (K : Nat) (r : HProp) (x y : Act) (vx vy : Value) (hx : RdK r vx x.k) (hy : RdK r vy y.k) (hl : x.k.length ≤ 1073741824) : Spec Tryd.prog 38 [.agg (actC x vx).toArray, .agg (actC y vy).toArray] [K] [r]
    fun F v Rs' => v = .bool (decide (x = y)) ∧ Rs' = (K, r) :: F := by
  have hE := lEqualB_ok K r vx vy x.k y.k hx hy hl
  obtain ⟨a, c, rfl, _, _⟩ := hx
  obtain ⟨a', c', rfl, _, _⟩ := hy
  obtain ⟨d, n, ⟨kind, level, key, value, low, high⟩, k⟩ := x
  obtain ⟨d', n', ⟨kind', level', key', value', low', high'⟩, k'⟩ := y
  simp only at hE
  show Spec Tryd.prog 38 [.agg ([.int .i64 d, .int .i64 n, .int .i64 kind, .int .i64 level, .string (sB key), .string (sB value), .string (sB low), .string (sB high), .slice a k.length c] : List Value).toArray,
    .agg ([.int .i64 d', .int .i64 n', .int .i64 kind', .int .i64 level', .string (sB key'), .string (sB value'), .string (sB low'), .string (sB high'), .slice a' k'.length c'] : List Value).toArray] [K] [r] _
  have hcl : ([.int .i64 kind, .int .i64 level, .string (sB key), .string (sB value), .string (sB low), .string (sB high)] : List Value).length = 6 := rfl
  have hcl' : ([.int .i64 kind', .int .i64 level', .string (sB key'), .string (sB value'), .string (sB low'), .string (sB high')] : List Value).length = 6 := rfl
  have rd0 : ∀ (b : Nat) (cs : List Value), Reads (pts b (.cells cs.toArray 46 (0, 0))) (some ⟨b, 0, none⟩) cs := fun b cs => reads_pts fun j v hj => by rw [Nat.zero_add]; exact hj
  refine spec_of Tryd.func38 rfl Tryd.ntmps38 rfl ?_
  intro w0 F
  repeat' (first | with_reducible (first | refine go1 ?_ | refine sct ?_ | refine scf ?_ | refine sgr ?_) | fail)
  refine sw_box fun b2 => ?_
  repeat' (first | with_reducible (first | refine go1 ?_ | refine sct ?_ | refine scf ?_ | refine sgr ?_) | fail)
  refine sw_box fun b3 => ?_
  repeat' (first | with_reducible (first | refine go1 ?_ | refine sct ?_ | refine scf ?_ | refine sgr ?_) | with_reducible refine sw_load_aggR b2 2 [.int .i64 kind, .int .i64 level, .string (sB key), .string (sB value), .string (sB low), .string (sB high)] (rd0 b2 _) hcl rfl rfl ?_ | with_reducible refine sw_load_aggR b3 2 [.int .i64 kind', .int .i64 level', .string (sB key'), .string (sB value'), .string (sB low'), .string (sB high')] (rd0 b3 _) hcl' rfl rfl ?_ | ((with_reducible refine sw_callf hE ?_); rintro _ _ ⟨rfl, rfl⟩) | with_reducible refine sw_guard_skip_u ?_ | (with_reducible refine sc_cond (fun h => ?_) (fun h => ?_)) <;> (try (exfalso; first | contradiction | omega | exact h Iff.rfl)) | (with_reducible refine sw_guard_split (fun h => ?_) (fun h => ?_)) <;> (try (exfalso; first | contradiction | omega | exact h Iff.rfl)) | (with_reducible refine sw_pick (fun h => ?_) (fun h => ?_)) <;> (try (exfalso; first | contradiction | omega | exact h Iff.rfl)) | fail)
  all_goals (refine sq_ret1 Tryd.results38 ?_)
  all_goals refine ⟨_, ⟨?_, rfl⟩, ?_⟩
  all_goals (first | ((repeat' (first | with_reducible exact Ent.refl _ | with_reducible refine Ent.take_eq ?_ ?_ | rfl | with_reducible refine Ent.oR ?_ | with_reducible refine Ent.trans (oR.drop _ _ _) ?_ | with_reducible refine Ent.trans (Ent.drop _ _) ?_)); done) | skip)
  · rename_i e1 e2
    subst e1 e2
    rw [h]; simp
  · congr 1
    symm
    rw [decide_eq_false]; simp only [Act.mk.injEq]; rintro ⟨_, _, g, _⟩; exact h g
  · congr 1
    symm
    rw [decide_eq_false]; simp only [Act.mk.injEq]; rintro ⟨_, g, _⟩; exact h g
  · congr 1
    symm
    rw [decide_eq_false]; simp only [Act.mk.injEq]; rintro ⟨g, _⟩; exact h g
end Go.Gsl

namespace Go.Gsl
set_option linter.unusedVariables false
open Go.Proofs

/-- what 'Line' answers -/
def lineV (a : Act) : Value := match lineS a with
  | some s => .tuple #[.string (sB s), .int .i64 0]
  | none => .tuple #[.string (sB []), .int .i64 1]
/-- the row of a line's words, if there is one -/
def rowV (o : Option (Nat × List Tok)) : Value := match o with
  | none => .slice none 0 0
  | some (b, l) => .slice (some ⟨b, 0, none⟩) l.length l.length
def rowG (x : Nat × List Tok) : Res := (x.1, pts x.1 (.cells (strC (x.2.map tokT)).toArray 9 (0, 0)))
instance (o : Option (Nat × List Tok)) : One (rowV o) := ⟨by cases o with | none => rfl | some x => rfl⟩

theorem rdk_fld {L : List Res} {s : Bs} {f : Flds} {x : Option (Nat × List Value)} {y z : Option (Nat × Nat × List Value)} (hm : (7010, FLD f x y z) ∈ L) (hz : NOk 1 (boolC f.k) f.k.length z) : RdK (hall L) (nV (actOf s f).k.length (keepO s z)) (actOf s f).k := by
  rw [act_k]
  unfold keepO
  by_cases h : isOwn s
  · simp only [if_pos h]
    exact ⟨none, 0, rfl, fun h => by simp at h, reads_nil _ _⟩
  · simp only [if_neg h]
    cases z with
    | none =>
      have := (hz.2.1 rfl).2
      rw [List.length_eq_zero_iff.1 this]
      exact ⟨none, 0, rfl, fun h => by simp at h, reads_nil _ _⟩
    | some q =>
      obtain ⟨b, c, t⟩ := q
      have hmem : nG 4 (boolC f.k) (b, c, t) ∈ fldR f x y (some (b, c, t)) [] := by
        have key : ∀ {α : Type} (g : α → Res) (F : List Res) (o : Option α) (q : Res), q ∈ F → q ∈ oR g F o := by
          intro α g F o q h
          cases o with
          | none => exact h
          | some a => exact List.mem_cons_of_mem _ h
        exact key _ _ _ _ (key _ _ _ _ List.mem_cons_self)
      exact ⟨some ⟨b, 0, none⟩, c, rfl, fun _ => ⟨b, 0, rfl⟩, reads_hall hm (reads_hall (k := b) hmem (reads_pts fun j v hj => by rw [Nat.zero_add, List.getElem?_append_left (List.getElem?_eq_some_iff.1 hj).1]; exact hj))⟩
set_option maxHeartbeats 4000000 in
theorem sLine_ok (W : World) (hT : Tabs Tryd.prog W) (K : Nat) (r : HProp) (a : Act) (kv : Value) (hk : RdK r kv a.k) (hn : -9223372036854775808 ≤ a.n ∧ a.n ≤ 9223372036854775807) (h1 : a.c.key.length ≤ 1048576) (h2 : a.c.value.length ≤ 1048576) (h3 : a.c.low.length ≤ 1048576) (h4 : a.c.high.length ≤ 1048576) (h5 : a.k.length ≤ 1048576) :
    Spec Tryd.prog 19 [.agg (actC a kv).toArray] [0, K] [ro W, r] fun F v Rs' => v = lineV a ∧ Rs' = (0, ro W) :: (K, r) :: F := by
  have hI := sItoa_ok W hT a.n hn
  have hKO := sKeepsOf_ok K r kv a.k hk (by omega)
  have hCL := sCallLine_ok W hT a.n a.c.kind a.c.level a.c.key a.c.value a.c.low a.c.high hn h1 h2 h3 h4
  obtain ⟨ka, kc, rfl, hka, hkr⟩ := hk
  obtain ⟨d, nn, ⟨kind, level, key, value, low, high⟩, k⟩ := a
  simp only at hI hKO hCL hn h1 h2 h3 h4 h5 hka hkr
  show Spec Tryd.prog 19 [.agg ([.int .i64 d, .int .i64 nn, .int .i64 kind, .int .i64 level, .string (sB key), .string (sB value), .string (sB low), .string (sB high), .slice ka k.length kc] : List Value).toArray] [0, K] [ro W, r] _
  have hcl : ([.int .i64 kind, .int .i64 level, .string (sB key), .string (sB value), .string (sB low), .string (sB high)] : List Value).length = 6 := rfl
  have rd0 : ∀ (b : Nat) (cs : List Value), Reads (pts b (.cells cs.toArray 46 (0, 0))) (some ⟨b, 0, none⟩) cs := fun b cs => reads_pts fun j v hj => by rw [Nat.zero_add]; exact hj
  refine spec_of Tryd.func19 rfl Tryd.ntmps19 rfl ?_
  intro w0 F
  repeat' (first | with_reducible (first | refine go1 ?_ | refine sct ?_ | refine scf ?_ | refine sgr ?_) | fail)
  refine sw_box fun b1 => ?_
  repeat' (first | with_reducible refine sc_mid (α := { o : Option (Nat × List Tok) // o.map Prod.snd = actT ⟨d, nn, ⟨kind, level, key, value, low, high⟩, k⟩ }) (fun o => [(1, .pointer (some ⟨b1, 0, none⟩)), (4, rowV o.1)]) (fun o => oR rowG ((b1, pts b1 (.cells ([.int .i64 d, .int .i64 nn, .int .i64 kind, .int .i64 level, .string (sB key), .string (sB value), .string (sB low), .string (sB high), .slice ka k.length kc] : List Value).toArray 46 (0, 0))) :: (0, ro W) :: (K, r) :: F) o.1) ?_ ?_ | with_reducible (first | refine go1 ?_ | refine sct ?_ | refine scf ?_ | refine sgr ?_) | ((with_reducible refine sw_callf hI ?_); rintro _ _ ⟨rfl, rfl⟩) | ((with_reducible refine sw_callf hKO ?_); rintro _ _ ⟨rfl, rfl⟩) | with_reducible refine sw_load_aggR b1 2 [.int .i64 kind, .int .i64 level, .string (sB key), .string (sB value), .string (sB low), .string (sB high)] (rd0 b1 _) hcl rfl rfl ?_ | (with_reducible refine sc_cond (fun h => ?_) (fun h => ?_)) <;> (try (exfalso; first | contradiction | omega | exact h Iff.rfl)) | fail)
  · refine sw_callf hCL ?_
    rintro v Rs hrow
    cases hc : callT nn ⟨kind, level, key, value, low, high⟩ with
    | none =>
      rw [hc] at hrow
      obtain ⟨rfl, rfl⟩ := hrow
      repeat' (first | with_reducible (first | refine go1 ?_ | refine sct ?_ | refine scf ?_ | refine sgr ?_) | fail)
      refine sq_mid ⟨none, by unfold actT; simp only; rw [if_pos (by assumption), hc]; rfl⟩ ?_ ?_
      · repeat' (first | exact says_nil | refine says_cons rfl ?_ | refine says_cons (by simp) ?_)
      · show Ent _ ((b1, pts b1 (.cells ([.int .i64 d, .int .i64 nn, .int .i64 kind, .int .i64 level, .string (sB key), .string (sB value), .string (sB low), .string (sB high), .slice ka k.length kc] : List Value).toArray 46 (0, 0))) :: (0, ro W) :: (K, r) :: F)
        repeat' (first | with_reducible exact Ent.refl _ | with_reducible refine Ent.take_eq ?_ ?_ | rfl | with_reducible refine Ent.oR ?_ | with_reducible refine Ent.trans (oR.drop _ _ _) ?_ | with_reducible refine Ent.trans (Ent.drop _ _) ?_)
    | some l =>
      rw [hc] at hrow
      obtain ⟨b7, rfl, rfl⟩ := hrow
      repeat' (first | with_reducible (first | refine go1 ?_ | refine sct ?_ | refine scf ?_ | refine sgr ?_) | fail)
      refine sq_mid ⟨some (b7, l), by unfold actT; simp only; rw [if_pos (by assumption), hc]; rfl⟩ ?_ ?_
      · repeat' (first | exact says_nil | refine says_cons rfl ?_ | refine says_cons (by simp) ?_)
      · show Ent _ ((b7, pts b7 (.cells (strC (l.map tokT)).toArray 9 (0, 0))) :: (b1, pts b1 (.cells ([.int .i64 d, .int .i64 nn, .int .i64 kind, .int .i64 level, .string (sB key), .string (sB value), .string (sB low), .string (sB high), .slice ka k.length kc] : List Value).toArray 46 (0, 0))) :: (0, ro W) :: (K, r) :: F)
        repeat' (first | with_reducible exact Ent.refl _ | with_reducible refine Ent.take_eq ?_ ?_ | rfl | with_reducible refine Ent.oR ?_ | with_reducible refine Ent.trans (oR.drop _ _ _) ?_ | with_reducible refine Ent.trans (Ent.drop _ _) ?_)
  · refine sw_buildSlice (strC ([pw wStep, pw (Lib.itoa nn)].map tokT)) (by omega) (by kernel_rfl) fun b7 => ?_
    repeat' (first | with_reducible (first | refine go1 ?_ | refine sct ?_ | refine scf ?_ | refine sgr ?_) | fail)
    refine sq_mid ⟨some (b7, [pw wStep, pw (Lib.itoa nn)]), by unfold actT; simp only; (repeat (first | rw [if_pos (by assumption)] | rw [if_neg (by assumption)])); all_goals rfl⟩ ?_ ?_
    · repeat' (first | exact says_nil | refine says_cons rfl ?_ | refine says_cons (by simp) ?_)
    · show Ent _ ((b7, pts b7 (.cells (strC ([pw wStep, pw (Lib.itoa nn)].map tokT)).toArray 9 (0, 0))) :: (b1, pts b1 (.cells ([.int .i64 d, .int .i64 nn, .int .i64 kind, .int .i64 level, .string (sB key), .string (sB value), .string (sB low), .string (sB high), .slice ka k.length kc] : List Value).toArray 46 (0, 0))) :: (0, ro W) :: (K, r) :: F)
      repeat' (first | with_reducible exact Ent.refl _ | with_reducible refine Ent.take_eq ?_ ?_ | rfl | with_reducible refine Ent.oR ?_ | with_reducible refine Ent.trans (oR.drop _ _ _) ?_ | with_reducible refine Ent.trans (Ent.drop _ _) ?_)
  · refine sw_buildSlice (strC ([pw wPick, pw (Lib.itoa nn)].map tokT)) (by omega) (by kernel_rfl) fun b7 => ?_
    repeat' (first | with_reducible (first | refine go1 ?_ | refine sct ?_ | refine scf ?_ | refine sgr ?_) | fail)
    refine sq_mid ⟨some (b7, [pw wPick, pw (Lib.itoa nn)]), by unfold actT; simp only; (repeat (first | rw [if_pos (by assumption)] | rw [if_neg (by assumption)])); all_goals rfl⟩ ?_ ?_
    · repeat' (first | exact says_nil | refine says_cons rfl ?_ | refine says_cons (by simp) ?_)
    · show Ent _ ((b7, pts b7 (.cells (strC ([pw wPick, pw (Lib.itoa nn)].map tokT)).toArray 9 (0, 0))) :: (b1, pts b1 (.cells ([.int .i64 d, .int .i64 nn, .int .i64 kind, .int .i64 level, .string (sB key), .string (sB value), .string (sB low), .string (sB high), .slice ka k.length kc] : List Value).toArray 46 (0, 0))) :: (0, ro W) :: (K, r) :: F)
      repeat' (first | with_reducible exact Ent.refl _ | with_reducible refine Ent.take_eq ?_ ?_ | rfl | with_reducible refine Ent.oR ?_ | with_reducible refine Ent.trans (oR.drop _ _ _) ?_ | with_reducible refine Ent.trans (Ent.drop _ _) ?_)
  · refine sw_buildSlice (strC ([pw wRun, pw (Lib.itoa nn)].map tokT)) (by omega) (by kernel_rfl) fun b7 => ?_
    repeat' (first | with_reducible (first | refine go1 ?_ | refine sct ?_ | refine scf ?_ | refine sgr ?_) | fail)
    refine sq_mid ⟨some (b7, [pw wRun, pw (Lib.itoa nn)]), by unfold actT; simp only; (repeat (first | rw [if_pos (by assumption)] | rw [if_neg (by assumption)])); all_goals rfl⟩ ?_ ?_
    · repeat' (first | exact says_nil | refine says_cons rfl ?_ | refine says_cons (by simp) ?_)
    · show Ent _ ((b7, pts b7 (.cells (strC ([pw wRun, pw (Lib.itoa nn)].map tokT)).toArray 9 (0, 0))) :: (b1, pts b1 (.cells ([.int .i64 d, .int .i64 nn, .int .i64 kind, .int .i64 level, .string (sB key), .string (sB value), .string (sB low), .string (sB high), .slice ka k.length kc] : List Value).toArray 46 (0, 0))) :: (0, ro W) :: (K, r) :: F)
      repeat' (first | with_reducible exact Ent.refl _ | with_reducible refine Ent.take_eq ?_ ?_ | rfl | with_reducible refine Ent.oR ?_ | with_reducible refine Ent.trans (oR.drop _ _ _) ?_ | with_reducible refine Ent.trans (Ent.drop _ _) ?_)
  · refine sw_buildSlice (strC ([pw wAll].map tokT)) (by omega) (by kernel_rfl) fun b7 => ?_
    repeat' (first | with_reducible (first | refine go1 ?_ | refine sct ?_ | refine scf ?_ | refine sgr ?_) | fail)
    refine sq_mid ⟨some (b7, [pw wAll]), by unfold actT; simp only; (repeat (first | rw [if_pos (by assumption)] | rw [if_neg (by assumption)])); all_goals rfl⟩ ?_ ?_
    · repeat' (first | exact says_nil | refine says_cons rfl ?_ | refine says_cons (by simp) ?_)
    · show Ent _ ((b7, pts b7 (.cells (strC ([pw wAll].map tokT)).toArray 9 (0, 0))) :: (b1, pts b1 (.cells ([.int .i64 d, .int .i64 nn, .int .i64 kind, .int .i64 level, .string (sB key), .string (sB value), .string (sB low), .string (sB high), .slice ka k.length kc] : List Value).toArray 46 (0, 0))) :: (0, ro W) :: (K, r) :: F)
      repeat' (first | with_reducible exact Ent.refl _ | with_reducible refine Ent.take_eq ?_ ?_ | rfl | with_reducible refine Ent.oR ?_ | with_reducible refine Ent.trans (oR.drop _ _ _) ?_ | with_reducible refine Ent.trans (Ent.drop _ _) ?_)
  · refine sw_buildSlice (strC ([pw wCrash, pw (kTxt k)].map tokT)) (by omega) (by kernel_rfl) fun b7 => ?_
    repeat' (first | with_reducible (first | refine go1 ?_ | refine sct ?_ | refine scf ?_ | refine sgr ?_) | fail)
    refine sq_mid ⟨some (b7, [pw wCrash, pw (kTxt k)]), by unfold actT; simp only; (repeat (first | rw [if_pos (by assumption)] | rw [if_neg (by assumption)])); all_goals rfl⟩ ?_ ?_
    · repeat' (first | exact says_nil | refine says_cons rfl ?_ | refine says_cons (by simp) ?_)
    · show Ent _ ((b7, pts b7 (.cells (strC ([pw wCrash, pw (kTxt k)].map tokT)).toArray 9 (0, 0))) :: (b1, pts b1 (.cells ([.int .i64 d, .int .i64 nn, .int .i64 kind, .int .i64 level, .string (sB key), .string (sB value), .string (sB low), .string (sB high), .slice ka k.length kc] : List Value).toArray 46 (0, 0))) :: (0, ro W) :: (K, r) :: F)
      repeat' (first | with_reducible exact Ent.refl _ | with_reducible refine Ent.take_eq ?_ ?_ | rfl | with_reducible refine Ent.oR ?_ | with_reducible refine Ent.trans (oR.drop _ _ _) ?_ | with_reducible refine Ent.trans (Ent.drop _ _) ?_)
  · refine sw_buildSlice (strC ([pw wFuse, pw (Lib.itoa nn), pw (kTxt k)].map tokT)) (by omega) (by kernel_rfl) fun b7 => ?_
    repeat' (first | with_reducible (first | refine go1 ?_ | refine sct ?_ | refine scf ?_ | refine sgr ?_) | fail)
    refine sq_mid ⟨some (b7, [pw wFuse, pw (Lib.itoa nn), pw (kTxt k)]), by unfold actT; simp only; (repeat (first | rw [if_pos (by assumption)] | rw [if_neg (by assumption)])); all_goals rfl⟩ ?_ ?_
    · repeat' (first | exact says_nil | refine says_cons rfl ?_ | refine says_cons (by simp) ?_)
    · show Ent _ ((b7, pts b7 (.cells (strC ([pw wFuse, pw (Lib.itoa nn), pw (kTxt k)].map tokT)).toArray 9 (0, 0))) :: (b1, pts b1 (.cells ([.int .i64 d, .int .i64 nn, .int .i64 kind, .int .i64 level, .string (sB key), .string (sB value), .string (sB low), .string (sB high), .slice ka k.length kc] : List Value).toArray 46 (0, 0))) :: (0, ro W) :: (K, r) :: F)
      repeat' (first | with_reducible exact Ent.refl _ | with_reducible refine Ent.take_eq ?_ ?_ | rfl | with_reducible refine Ent.oR ?_ | with_reducible refine Ent.trans (oR.drop _ _ _) ?_ | with_reducible refine Ent.trans (Ent.drop _ _) ?_)
  · refine sw_buildSlice (strC ([pw wRestart].map tokT)) (by omega) (by kernel_rfl) fun b7 => ?_
    repeat' (first | with_reducible (first | refine go1 ?_ | refine sct ?_ | refine scf ?_ | refine sgr ?_) | fail)
    refine sq_mid ⟨some (b7, [pw wRestart]), by unfold actT; simp only; (repeat (first | rw [if_pos (by assumption)] | rw [if_neg (by assumption)])); all_goals rfl⟩ ?_ ?_
    · repeat' (first | exact says_nil | refine says_cons rfl ?_ | refine says_cons (by simp) ?_)
    · show Ent _ ((b7, pts b7 (.cells (strC ([pw wRestart].map tokT)).toArray 9 (0, 0))) :: (b1, pts b1 (.cells ([.int .i64 d, .int .i64 nn, .int .i64 kind, .int .i64 level, .string (sB key), .string (sB value), .string (sB low), .string (sB high), .slice ka k.length kc] : List Value).toArray 46 (0, 0))) :: (0, ro W) :: (K, r) :: F)
      repeat' (first | with_reducible exact Ent.refl _ | with_reducible refine Ent.take_eq ?_ ?_ | rfl | with_reducible refine Ent.oR ?_ | with_reducible refine Ent.trans (oR.drop _ _ _) ?_ | with_reducible refine Ent.trans (Ent.drop _ _) ?_)
  · refine sw_buildSlice (strC ([pw wRest].map tokT)) (by omega) (by kernel_rfl) fun b7 => ?_
    repeat' (first | with_reducible (first | refine go1 ?_ | refine sct ?_ | refine scf ?_ | refine sgr ?_) | fail)
    refine sq_mid ⟨some (b7, [pw wRest]), by unfold actT; simp only; (repeat (first | rw [if_pos (by assumption)] | rw [if_neg (by assumption)])); all_goals rfl⟩ ?_ ?_
    · repeat' (first | exact says_nil | refine says_cons rfl ?_ | refine says_cons (by simp) ?_)
    · show Ent _ ((b7, pts b7 (.cells (strC ([pw wRest].map tokT)).toArray 9 (0, 0))) :: (b1, pts b1 (.cells ([.int .i64 d, .int .i64 nn, .int .i64 kind, .int .i64 level, .string (sB key), .string (sB value), .string (sB low), .string (sB high), .slice ka k.length kc] : List Value).toArray 46 (0, 0))) :: (0, ro W) :: (K, r) :: F)
      repeat' (first | with_reducible exact Ent.refl _ | with_reducible refine Ent.take_eq ?_ ?_ | rfl | with_reducible refine Ent.oR ?_ | with_reducible refine Ent.trans (oR.drop _ _ _) ?_ | with_reducible refine Ent.trans (Ent.drop _ _) ?_)
  · refine sq_mid ⟨none, by unfold actT; simp only; (repeat (first | rw [if_pos (by assumption)] | rw [if_neg (by assumption)])); all_goals rfl⟩ ?_ ?_
    · repeat' (first | exact says_nil | refine says_cons rfl ?_ | refine says_cons (by simp) ?_)
    · show Ent _ ((b1, pts b1 (.cells ([.int .i64 d, .int .i64 nn, .int .i64 kind, .int .i64 level, .string (sB key), .string (sB value), .string (sB low), .string (sB high), .slice ka k.length kc] : List Value).toArray 46 (0, 0))) :: (0, ro W) :: (K, r) :: F)
      repeat' (first | with_reducible exact Ent.refl _ | with_reducible refine Ent.take_eq ?_ ?_ | rfl | with_reducible refine Ent.oR ?_ | with_reducible refine Ent.trans (oR.drop _ _ _) ?_ | with_reducible refine Ent.trans (Ent.drop _ _) ?_)
  rintro ⟨o, ho⟩ e0
  clear hI hKO hCL
  cases o with
  | none =>
    simp only [rowV]
    simp only [List.cons_append, List.nil_append]
    repeat' (first | with_reducible (first | refine go1 ?_ | refine sct ?_ | refine scf ?_ | refine sgr ?_) | with_reducible refine sw_guard_skip_u ?_ | (with_reducible refine sc_cond (fun h => ?_) (fun h => ?_)) <;> (try (exfalso; first | contradiction | omega | exact h Iff.rfl)) | (with_reducible refine sw_guard_split (fun h => ?_) (fun h => ?_)) <;> (try (exfalso; first | contradiction | omega | exact h Iff.rfl)) | (with_reducible refine sw_pick (fun h => ?_) (fun h => ?_)) <;> (try (exfalso; first | contradiction | omega | exact h Iff.rfl)) | fail)
    refine sq_ret2 Tryd.results19 ?_
    have hlv : lineV ⟨d, nn, ⟨kind, level, key, value, low, high⟩, k⟩ = .tuple #[.string (sB []), .int .i64 1] := by
      unfold lineV lineS; rw [← ho]; rfl
    refine ⟨_, ⟨hlv.symm, rfl⟩, ?_⟩
    repeat' (first | with_reducible exact Ent.refl _ | with_reducible refine Ent.take_eq ?_ ?_ | rfl | with_reducible refine Ent.oR ?_ | with_reducible refine Ent.trans (oR.drop _ _ _) ?_ | with_reducible refine Ent.trans (Ent.drop _ _) ?_)
  | some bl =>
    obtain ⟨b, l⟩ := bl
    have hT' : some l = actT ⟨d, nn, ⟨kind, level, key, value, low, high⟩, k⟩ := ho
    obtain ⟨w, ws, f, rfl, hwt, hfit, hact, hwok⟩ := actT_says (a := ⟨d, nn, ⟨kind, level, key, value, low, high⟩, k⟩) hT'.symm hn
    have hlen := line_len hT'.symm (by simp only; omega) (by simp only; omega) (by simp only; omega) (by simp only; omega) (by simp only; omega) hn
    simp only at hlen
    have hlv : lineV ⟨d, nn, ⟨kind, level, key, value, low, high⟩, k⟩ = if backA ⟨d, nn, ⟨kind, level, key, value, low, high⟩, k⟩ = ⟨d, nn, ⟨kind, level, key, value, low, high⟩, k⟩ then .tuple #[.string (sB (lineT (w :: ws))), .int .i64 0] else .tuple #[.string (sB []), .int .i64 1] := by
      unfold lineV lineS; rw [← hT']; simp only
      by_cases hb : backA ⟨d, nn, ⟨kind, level, key, value, low, high⟩, k⟩ = ⟨d, nn, ⟨kind, level, key, value, low, high⟩, k⟩
      · rw [if_pos hb, if_pos hb]
      · rw [if_neg hb, if_neg hb]
    rw [hlv]
    generalize backA ⟨d, nn, ⟨kind, level, key, value, low, high⟩, k⟩ = A at *
    obtain ⟨L, hL⟩ : ∃ L, lineT (w :: ws) = L := ⟨_, rfl⟩
    rw [hL] at hlen ⊢
    have hwl := words_line _ hwok
    rw [hL] at hwl
    obtain ⟨hb1, hb2⟩ := words_bound _ _ _ (Nat.le_refl _) hwl
    have hw1 : (w :: ws).length = ws.length + 1 := rfl
    have hjn : Lib.join ((w :: ws).map tokT) [32] = L := hL
    have hJ := sJoinR_ok b (pts b (.cells (strC ((w :: ws).map tokT)).toArray 9 (0, 0))) (.slice (some ⟨b, 0, none⟩) (w :: ws).length (w :: ws).length) ((w :: ws).map tokT)
      ⟨some ⟨b, 0, none⟩, (w :: ws).length, by rw [List.length_map], by rw [List.length_map]; exact Nat.le_refl _, fun _ => ⟨b, 0, rfl⟩, reads_pts fun j v hj => by rw [Nat.zero_add]; exact hj⟩ (by rw [hjn]; omega) (by rw [List.length_map]; omega)
    rw [hjn] at hJ
    have hWd : Spec Tryd.prog 44 [.string (sB L)] [] [] fun F v Rs' => ∃ b2 c2 t2, v = .slice (some ⟨b2, 0, none⟩) (w :: ws).length c2 ∧ Rs' = (b2, pts b2 (.cells (tokC (w :: ws) ++ t2).toArray 96 (0, 0))) :: F :=
      (sWords_ok L (by omega)).ret (by
        rintro F v Rs' ⟨l', o', hl', hN, rfl, rfl⟩
        rw [hwl] at hl'
        obtain rfl := Option.some.inj hl'
        cases o' with
        | none => have := (hN.2.1 rfl).2; simp at this
        | some q => obtain ⟨b2, c2, t2⟩ := q; exact ⟨b2, c2, t2, rfl, rfl⟩) (by rintro F v Rs' ⟨h, _⟩; rw [hwl] at h; cases h)
    have hFt := fun b2 c2 t2 => (sFits_ok W hT w ws b2 c2 t2 (by omega) (fun x hx => by have := hb2 x hx; omega)).ret (A' := fun F v Rs' => ∃ x y z, FldOk f x y z ∧ v = .agg (fldV f x y z).toArray ∧ Rs' = fldR f x y z ((0, ro W) :: (b2, pts b2 (.cells (tokC (w :: ws) ++ t2).toArray 96 (0, 0))) :: F)) (by
        rintro F v Rs' ⟨f', x, y, z, hf', h⟩
        rw [hfit] at hf'
        simp only [Except.ok.injEq] at hf'
        subst hf'
        exact ⟨x, y, z, h⟩) (by rintro F v Rs' ⟨er, h, _⟩; rw [hfit] at h; cases h)
    have hAc : ∀ x y z, FldOk f x y z → Spec Tryd.prog 42 [.string (sB w.s), .agg (fldV f x y z).toArray] [7010] [FLD f x y z] fun F v Rs' => v = .agg (actC A (nV A.k.length (keepO w.s z))).toArray ∧ Rs' = (7010, FLD f x y z) :: F := by
      intro x y z hxyz
      have := sAct_ok w.s f x y z hxyz (fits_t1 hfit) (fits_t2 hfit)
      rw [keep_v, hact] at this
      exact this
    have hAk : A.k.length ≤ 1073741824 := by
      rw [← hact, act_k]
      split
      · simp
      · exact fits_k hfit fun x hx => by have := hb2 x hx; omega
    have hRA : ∀ x y z, FldOk f x y z → RdK (hall [(7010, FLD f x y z), (K, r)]) (nV A.k.length (keepO w.s z)) A.k := fun x y z h => by
      rw [← hact]; exact rdk_fld (List.mem_cons_self) h.2.2
    have hRk : ∀ x y z, RdK (hall [(7010, FLD f x y z), (K, r)]) (.slice ka k.length kc) k := fun x y z => ⟨ka, kc, rfl, hka, reads_hall (k := K) (r := r) (by simp) hkr⟩
    have hSA : ∀ x y z, FldOk f x y z → Spec Tryd.prog 38 [.agg (actC A (nV A.k.length (keepO w.s z))).toArray, .agg ([.int .i64 d, .int .i64 nn, .int .i64 kind, .int .i64 level, .string (sB key), .string (sB value), .string (sB low), .string (sB high), .slice ka k.length kc] : List Value).toArray] [7050] [hall [(7010, FLD f x y z), (K, r)]]
        fun F v Rs' => v = .bool (decide (A = ⟨d, nn, ⟨kind, level, key, value, low, high⟩, k⟩)) ∧ Rs' = (7050, hall [(7010, FLD f x y z), (K, r)]) :: F :=
      fun x y z h => sSameAct_ok 7050 _ A ⟨d, nn, ⟨kind, level, key, value, low, high⟩, k⟩ _ _ (hRA x y z h) (hRk x y z) hAk
    have h0t : (strC ((w :: ws).map tokT))[0 + 0 * 1]? = some (.string (sB w.s)) := by
      obtain ⟨ws', wt⟩ := w
      simp only at hwt
      subst hwt
      rfl
    have hbl : (w :: ws).length = ws.length + 1 := rfl
    simp only [rowV]
    rw [show oR rowG ((b1, pts b1 (.cells ([.int .i64 d, .int .i64 nn, .int .i64 kind, .int .i64 level, .string (sB key), .string (sB value), .string (sB low), .string (sB high), .slice ka k.length kc] : List Value).toArray 46 (0, 0))) :: (0, ro W) :: (K, r) :: F) (some (b, w :: ws)) = (b, pts b (.cells (strC ((w :: ws).map tokT)).toArray 9 (0, 0))) :: (b1, pts b1 (.cells ([.int .i64 d, .int .i64 nn, .int .i64 kind, .int .i64 level, .string (sB key), .string (sB value), .string (sB low), .string (sB high), .slice ka k.length kc] : List Value).toArray 46 (0, 0))) :: (0, ro W) :: (K, r) :: F from rfl]
    simp only [List.cons_append, List.nil_append]
    clear hlv hwl hjn hact
    generalize strC ((w :: ws).map tokT) = row at *
    repeat' (first | with_reducible (first | refine go1 ?_ | refine sct ?_ | refine scf ?_ | refine sgr ?_) | ((with_reducible refine sw_callf hJ ?_); rintro _ _ ⟨rfl, rfl⟩) | with_reducible refine sw_guard_skip_u ?_ | (with_reducible refine sc_cond (fun h => ?_) (fun h => ?_)) <;> (try (exfalso; first | contradiction | omega | exact h Iff.rfl)) | (with_reducible refine sw_guard_split (fun h => ?_) (fun h => ?_)) <;> (try (exfalso; first | contradiction | omega | exact h Iff.rfl)) | (with_reducible refine sw_pick (fun h => ?_) (fun h => ?_)) <;> (try (exfalso; first | contradiction | omega | exact h Iff.rfl)) | fail)
    refine sc_drawC (m := 9) ([(b, pts b (.cells row.toArray 9 (0, 0)))]) CalmC.out (by kernel_rfl) rfl (fun hcalm => ?_)
    all_goals (first | refine sg_take 0 hcalm rfl (by kernel_rfl) (by kernel_rfl) (by kernel_rfl) ?_)
    all_goals (first | refine sg_take 1 hcalm rfl (by kernel_rfl) (by kernel_rfl) (by kernel_rfl) (h := runop_indexN 0 ⟨rfl, by omega⟩) ?_ | refine sg_take 1 hcalm rfl (by kernel_rfl) (by kernel_rfl) (by kernel_rfl) ?_)
    all_goals (first | refine sg_take 2 hcalm rfl (by kernel_rfl) (by kernel_rfl) (by kernel_rfl) (h := runop_loadAt (.string (sB w.s)) h0t) ?_ | refine sg_take 2 hcalm rfl (by kernel_rfl) (by kernel_rfl) (by kernel_rfl) ?_)
    all_goals (first | refine sg_take 3 hcalm rfl (by kernel_rfl) (by kernel_rfl) (by kernel_rfl) ?_)
    refine sg_two 4 7 rfl rfl (by kernel_rfl) rfl ?g1a ?g1b
    case' g1a =>
      all_goals (repeat' (first | with_reducible (first | refine go1 ?_ | refine sct ?_ | refine scf ?_ | refine sgr ?_) | ((with_reducible refine sw_callf hWd ?_); rintro _ _ ⟨b2, c2, t2, rfl, rfl⟩) | ((with_reducible refine sw_callf (hFt b2 c2 t2) ?_); rintro _ _ ⟨x, y, z, hxyz, rfl, rfl⟩; refine sw_ent (fld_close f x y z _) ?_) | ((with_reducible refine sw_callf (hAc x y z hxyz) ?_); rintro _ _ ⟨rfl, rfl⟩) | with_reducible refine sw_alloc fun b7 => ?_ | with_reducible refine sw_store_agg ?_ | with_reducible refine sg_back ?_ | fail))
      refine sg_two 5 7 rfl rfl (by kernel_rfl) rfl ?g2a ?g2b
      case' g2a =>
        all_goals (repeat' (first | with_reducible (first | refine go1 ?_ | refine sct ?_ | refine scf ?_ | refine sgr ?_) | ((with_reducible refine sw_callf hWd ?_); rintro _ _ ⟨b2, c2, t2, rfl, rfl⟩) | ((with_reducible refine sw_callf (hFt b2 c2 t2) ?_); rintro _ _ ⟨x, y, z, hxyz, rfl, rfl⟩; refine sw_ent (fld_close f x y z _) ?_) | ((with_reducible refine sw_callf (hAc x y z hxyz) ?_); rintro _ _ ⟨rfl, rfl⟩) | with_reducible refine sw_alloc fun b7 => ?_ | with_reducible refine sw_store_agg ?_ | with_reducible refine sg_back ?_ | fail))
        refine sg_two 6 7 rfl rfl (by kernel_rfl) rfl ?g3a ?g3b
        case' g3a =>
          all_goals (repeat' (first | with_reducible (first | refine go1 ?_ | refine sct ?_ | refine scf ?_ | refine sgr ?_) | ((with_reducible refine sw_callf hWd ?_); rintro _ _ ⟨b2, c2, t2, rfl, rfl⟩) | ((with_reducible refine sw_callf (hFt b2 c2 t2) ?_); rintro _ _ ⟨x, y, z, hxyz, rfl, rfl⟩; refine sw_ent (fld_close f x y z _) ?_) | ((with_reducible refine sw_callf (hAc x y z hxyz) ?_); rintro _ _ ⟨rfl, rfl⟩) | with_reducible refine sw_alloc fun b7 => ?_ | with_reducible refine sw_store_agg ?_ | with_reducible refine sg_back ?_ | fail))
          all_goals (refine sg_one 7 rfl (by kernel_rfl) rfl ?_)
          all_goals (repeat' (first | with_reducible (first | refine go1 ?_ | refine sct ?_ | refine scf ?_ | refine sgr ?_) | ((with_reducible refine sw_callf hWd ?_); rintro _ _ ⟨b2, c2, t2, rfl, rfl⟩) | ((with_reducible refine sw_callf (hFt b2 c2 t2) ?_); rintro _ _ ⟨x, y, z, hxyz, rfl, rfl⟩; refine sw_ent (fld_close f x y z _) ?_) | ((with_reducible refine sw_callf (hAc x y z hxyz) ?_); rintro _ _ ⟨rfl, rfl⟩) | with_reducible refine sw_alloc fun b7 => ?_ | with_reducible refine sw_store_agg ?_ | with_reducible refine sg_back ?_ | fail))
          all_goals (refine sg_one 8 rfl (by kernel_rfl) rfl ?_)
          all_goals (repeat' (first | with_reducible (first | refine go1 ?_ | refine sct ?_ | refine scf ?_ | refine sgr ?_) | ((with_reducible refine sw_callf hWd ?_); rintro _ _ ⟨b2, c2, t2, rfl, rfl⟩) | ((with_reducible refine sw_callf (hFt b2 c2 t2) ?_); rintro _ _ ⟨x, y, z, hxyz, rfl, rfl⟩; refine sw_ent (fld_close f x y z _) ?_) | ((with_reducible refine sw_callf (hAc x y z hxyz) ?_); rintro _ _ ⟨rfl, rfl⟩) | with_reducible refine sw_alloc fun b7 => ?_ | with_reducible refine sw_store_agg ?_ | with_reducible refine sg_back ?_ | fail))
          all_goals (refine sg_done (by kernel_rfl) rfl ?_)
        case' g3b =>
          all_goals (repeat' (first | with_reducible (first | refine go1 ?_ | refine sct ?_ | refine scf ?_ | refine sgr ?_) | ((with_reducible refine sw_callf hWd ?_); rintro _ _ ⟨b2, c2, t2, rfl, rfl⟩) | ((with_reducible refine sw_callf (hFt b2 c2 t2) ?_); rintro _ _ ⟨x, y, z, hxyz, rfl, rfl⟩; refine sw_ent (fld_close f x y z _) ?_) | ((with_reducible refine sw_callf (hAc x y z hxyz) ?_); rintro _ _ ⟨rfl, rfl⟩) | with_reducible refine sw_alloc fun b7 => ?_ | with_reducible refine sw_store_agg ?_ | with_reducible refine sg_back ?_ | fail))
          all_goals (refine sg_one 6 rfl (by kernel_rfl) rfl ?_)
          all_goals (repeat' (first | with_reducible (first | refine go1 ?_ | refine sct ?_ | refine scf ?_ | refine sgr ?_) | ((with_reducible refine sw_callf hWd ?_); rintro _ _ ⟨b2, c2, t2, rfl, rfl⟩) | ((with_reducible refine sw_callf (hFt b2 c2 t2) ?_); rintro _ _ ⟨x, y, z, hxyz, rfl, rfl⟩; refine sw_ent (fld_close f x y z _) ?_) | ((with_reducible refine sw_callf (hAc x y z hxyz) ?_); rintro _ _ ⟨rfl, rfl⟩) | with_reducible refine sw_alloc fun b7 => ?_ | with_reducible refine sw_store_agg ?_ | with_reducible refine sg_back ?_ | fail))
          all_goals (refine sg_one 8 rfl (by kernel_rfl) rfl ?_)
          all_goals (repeat' (first | with_reducible (first | refine go1 ?_ | refine sct ?_ | refine scf ?_ | refine sgr ?_) | ((with_reducible refine sw_callf hWd ?_); rintro _ _ ⟨b2, c2, t2, rfl, rfl⟩) | ((with_reducible refine sw_callf (hFt b2 c2 t2) ?_); rintro _ _ ⟨x, y, z, hxyz, rfl, rfl⟩; refine sw_ent (fld_close f x y z _) ?_) | ((with_reducible refine sw_callf (hAc x y z hxyz) ?_); rintro _ _ ⟨rfl, rfl⟩) | with_reducible refine sw_alloc fun b7 => ?_ | with_reducible refine sw_store_agg ?_ | with_reducible refine sg_back ?_ | fail))
          all_goals (refine sg_done (by kernel_rfl) rfl ?_)
      case' g2b =>
        all_goals (repeat' (first | with_reducible (first | refine go1 ?_ | refine sct ?_ | refine scf ?_ | refine sgr ?_) | ((with_reducible refine sw_callf hWd ?_); rintro _ _ ⟨b2, c2, t2, rfl, rfl⟩) | ((with_reducible refine sw_callf (hFt b2 c2 t2) ?_); rintro _ _ ⟨x, y, z, hxyz, rfl, rfl⟩; refine sw_ent (fld_close f x y z _) ?_) | ((with_reducible refine sw_callf (hAc x y z hxyz) ?_); rintro _ _ ⟨rfl, rfl⟩) | with_reducible refine sw_alloc fun b7 => ?_ | with_reducible refine sw_store_agg ?_ | with_reducible refine sg_back ?_ | fail))
        all_goals (refine sg_one 5 rfl (by kernel_rfl) rfl ?_)
        all_goals (repeat' (first | with_reducible (first | refine go1 ?_ | refine sct ?_ | refine scf ?_ | refine sgr ?_) | ((with_reducible refine sw_callf hWd ?_); rintro _ _ ⟨b2, c2, t2, rfl, rfl⟩) | ((with_reducible refine sw_callf (hFt b2 c2 t2) ?_); rintro _ _ ⟨x, y, z, hxyz, rfl, rfl⟩; refine sw_ent (fld_close f x y z _) ?_) | ((with_reducible refine sw_callf (hAc x y z hxyz) ?_); rintro _ _ ⟨rfl, rfl⟩) | with_reducible refine sw_alloc fun b7 => ?_ | with_reducible refine sw_store_agg ?_ | with_reducible refine sg_back ?_ | fail))
        all_goals (refine sg_one 6 rfl (by kernel_rfl) rfl ?_)
        all_goals (repeat' (first | with_reducible (first | refine go1 ?_ | refine sct ?_ | refine scf ?_ | refine sgr ?_) | ((with_reducible refine sw_callf hWd ?_); rintro _ _ ⟨b2, c2, t2, rfl, rfl⟩) | ((with_reducible refine sw_callf (hFt b2 c2 t2) ?_); rintro _ _ ⟨x, y, z, hxyz, rfl, rfl⟩; refine sw_ent (fld_close f x y z _) ?_) | ((with_reducible refine sw_callf (hAc x y z hxyz) ?_); rintro _ _ ⟨rfl, rfl⟩) | with_reducible refine sw_alloc fun b7 => ?_ | with_reducible refine sw_store_agg ?_ | with_reducible refine sg_back ?_ | fail))
        all_goals (refine sg_one 8 rfl (by kernel_rfl) rfl ?_)
        all_goals (repeat' (first | with_reducible (first | refine go1 ?_ | refine sct ?_ | refine scf ?_ | refine sgr ?_) | ((with_reducible refine sw_callf hWd ?_); rintro _ _ ⟨b2, c2, t2, rfl, rfl⟩) | ((with_reducible refine sw_callf (hFt b2 c2 t2) ?_); rintro _ _ ⟨x, y, z, hxyz, rfl, rfl⟩; refine sw_ent (fld_close f x y z _) ?_) | ((with_reducible refine sw_callf (hAc x y z hxyz) ?_); rintro _ _ ⟨rfl, rfl⟩) | with_reducible refine sw_alloc fun b7 => ?_ | with_reducible refine sw_store_agg ?_ | with_reducible refine sg_back ?_ | fail))
        all_goals (refine sg_done (by kernel_rfl) rfl ?_)
    case' g1b =>
      all_goals (repeat' (first | with_reducible (first | refine go1 ?_ | refine sct ?_ | refine scf ?_ | refine sgr ?_) | ((with_reducible refine sw_callf hWd ?_); rintro _ _ ⟨b2, c2, t2, rfl, rfl⟩) | ((with_reducible refine sw_callf (hFt b2 c2 t2) ?_); rintro _ _ ⟨x, y, z, hxyz, rfl, rfl⟩; refine sw_ent (fld_close f x y z _) ?_) | ((with_reducible refine sw_callf (hAc x y z hxyz) ?_); rintro _ _ ⟨rfl, rfl⟩) | with_reducible refine sw_alloc fun b7 => ?_ | with_reducible refine sw_store_agg ?_ | with_reducible refine sg_back ?_ | fail))
      all_goals (refine sg_one 4 rfl (by kernel_rfl) rfl ?_)
      all_goals (repeat' (first | with_reducible (first | refine go1 ?_ | refine sct ?_ | refine scf ?_ | refine sgr ?_) | ((with_reducible refine sw_callf hWd ?_); rintro _ _ ⟨b2, c2, t2, rfl, rfl⟩) | ((with_reducible refine sw_callf (hFt b2 c2 t2) ?_); rintro _ _ ⟨x, y, z, hxyz, rfl, rfl⟩; refine sw_ent (fld_close f x y z _) ?_) | ((with_reducible refine sw_callf (hAc x y z hxyz) ?_); rintro _ _ ⟨rfl, rfl⟩) | with_reducible refine sw_alloc fun b7 => ?_ | with_reducible refine sw_store_agg ?_ | with_reducible refine sg_back ?_ | fail))
      all_goals (refine sg_one 5 rfl (by kernel_rfl) rfl ?_)
      all_goals (repeat' (first | with_reducible (first | refine go1 ?_ | refine sct ?_ | refine scf ?_ | refine sgr ?_) | ((with_reducible refine sw_callf hWd ?_); rintro _ _ ⟨b2, c2, t2, rfl, rfl⟩) | ((with_reducible refine sw_callf (hFt b2 c2 t2) ?_); rintro _ _ ⟨x, y, z, hxyz, rfl, rfl⟩; refine sw_ent (fld_close f x y z _) ?_) | ((with_reducible refine sw_callf (hAc x y z hxyz) ?_); rintro _ _ ⟨rfl, rfl⟩) | with_reducible refine sw_alloc fun b7 => ?_ | with_reducible refine sw_store_agg ?_ | with_reducible refine sg_back ?_ | fail))
      all_goals (refine sg_one 6 rfl (by kernel_rfl) rfl ?_)
      all_goals (repeat' (first | with_reducible (first | refine go1 ?_ | refine sct ?_ | refine scf ?_ | refine sgr ?_) | ((with_reducible refine sw_callf hWd ?_); rintro _ _ ⟨b2, c2, t2, rfl, rfl⟩) | ((with_reducible refine sw_callf (hFt b2 c2 t2) ?_); rintro _ _ ⟨x, y, z, hxyz, rfl, rfl⟩; refine sw_ent (fld_close f x y z _) ?_) | ((with_reducible refine sw_callf (hAc x y z hxyz) ?_); rintro _ _ ⟨rfl, rfl⟩) | with_reducible refine sw_alloc fun b7 => ?_ | with_reducible refine sw_store_agg ?_ | with_reducible refine sg_back ?_ | fail))
      all_goals (refine sg_one 8 rfl (by kernel_rfl) rfl ?_)
      all_goals (repeat' (first | with_reducible (first | refine go1 ?_ | refine sct ?_ | refine scf ?_ | refine sgr ?_) | ((with_reducible refine sw_callf hWd ?_); rintro _ _ ⟨b2, c2, t2, rfl, rfl⟩) | ((with_reducible refine sw_callf (hFt b2 c2 t2) ?_); rintro _ _ ⟨x, y, z, hxyz, rfl, rfl⟩; refine sw_ent (fld_close f x y z _) ?_) | ((with_reducible refine sw_callf (hAc x y z hxyz) ?_); rintro _ _ ⟨rfl, rfl⟩) | with_reducible refine sw_alloc fun b7 => ?_ | with_reducible refine sw_store_agg ?_ | with_reducible refine sg_back ?_ | fail))
      all_goals (refine sg_done (by kernel_rfl) rfl ?_)
    all_goals refine sq_ent (Rs'' := (7050, hall [(7010, FLD f x y z), (K, r)]) :: (b7, pts b7 (.cells (actC A (nV A.k.length (keepO w.s z))).toArray 46 (0, 0))) :: (b1, pts b1 (.cells ([.int .i64 d, .int .i64 nn, .int .i64 kind, .int .i64 level, .string (sB key), .string (sB value), .string (sB low), .string (sB high), .slice ka k.length kc] : List Value).toArray 46 (0, 0))) :: (0, ro W) :: F) ?_ ?_
    all_goals (first | ((refine Ent.hall1 ?_; simp only [List.cons_append, List.nil_append]; (repeat' (first | with_reducible exact Ent.refl _ | with_reducible refine Ent.take_eq ?_ ?_ | rfl | with_reducible refine Ent.oR ?_ | with_reducible refine Ent.trans (oR.drop _ _ _) ?_ | with_reducible refine Ent.trans (Ent.drop _ _) ?_))); done) | skip)
    all_goals (repeat' (first | with_reducible (first | refine go1 ?_ | refine sct ?_ | refine scf ?_ | refine sgr ?_) | ((with_reducible refine sw_callf (hSA x y z hxyz) ?_); rintro _ _ ⟨rfl, rfl⟩) | with_reducible refine sw_guard_skip_u ?_ | (with_reducible refine sc_cond (fun h => ?_) (fun h => ?_)) <;> (try (exfalso; first | contradiction | omega | exact h Iff.rfl)) | (with_reducible refine sw_guard_split (fun h => ?_) (fun h => ?_)) <;> (try (exfalso; first | contradiction | omega | exact h Iff.rfl)) | (with_reducible refine sw_pick (fun h => ?_) (fun h => ?_)) <;> (try (exfalso; first | contradiction | omega | exact h Iff.rfl)) | fail))
    all_goals (refine sq_ret2 Tryd.results19 ?_)
    all_goals (first | rw [if_neg (by assumption)] | rw [if_pos (Classical.not_not.1 (by assumption))])
    all_goals refine ⟨_, ⟨rfl, rfl⟩, ?_⟩
    all_goals refine Ent.trans (Ent.hall_open 7050 [(7010, FLD f x y z), (K, r)] _) ?_
    all_goals simp only [List.cons_append, List.nil_append]
    all_goals (repeat' (first | with_reducible exact Ent.refl _ | with_reducible refine Ent.take_eq ?_ ?_ | rfl | with_reducible refine Ent.oR ?_ | with_reducible refine Ent.trans (oR.drop _ _ _) ?_ | with_reducible refine Ent.trans (Ent.drop _ _) ?_))
end Go.Gsl

namespace Go.Gsl
set_option linter.unusedVariables false
open Go.Proofs

/-- memory that came in may be named twice -/
theorem Ent.ro_dup (K : Nat) (W : World) (F : List Res) : Ent ((0, ro W) :: F) ((K, ro W) :: (0, ro W) :: F) :=
  Ent.dup fun h hr b o hb => by
    have := hr b o hb
    unfold fpart
    simp [this]
theorem Line_ok (W : World) (hT : Tabs Tryd.prog W) (K : Nat) (r : HProp) (a : Act) (kv : Value) (hk : RdK r kv a.k) (h : a.small) :
    Spec Tryd.prog 19 [.agg (actC a kv).toArray] [0, K] [ro W, r] fun F v Rs' => v = lineV a ∧ Rs' = (0, ro W) :: (K, r) :: F :=
  sLine_ok W hT K r a kv hk h.1 h.2.1 h.2.2.1 h.2.2.2.1 h.2.2.2.2.1 h.2.2.2.2.2
theorem lineV_some {a : Act} {s : Bs} (h : lineS a = some s) : lineV a = .tuple #[.string (sB s), .int .i64 0] := by unfold lineV; rw [h]
theorem lineV_none {a : Act} (h : lineS a = none) : lineV a = .tuple #[.string (sB []), .int .i64 1] := by unfold lineV; rw [h]
set_option maxHeartbeats 4000000 in
theorem l26Apart_ok (W : World) (hT : Tabs Tryd.prog W) (x y : Act) (vx vy : Value) (hx : RdK (ro W) vx x.k) (hy : RdK (ro W) vy y.k) (sx : x.small) (sy : y.small) : Spec Tryd.prog 6 [.agg (actC x vx).toArray, .agg (actC y vy).toArray] [0] [ro W]
    fun F v Rs' => v = .bool true ∧ Rs' = (0, ro W) :: F := by
  have hX := Line_ok W hT 7040 (ro W) x vx hx sx
  have hY := Line_ok W hT 7040 (ro W) y vy hy sy
  have hS := qSameAct_ok 7040 (ro W) x y vx vy hx hy (by have := sx.2.2.2.2.2; omega)
  have hB := begun_ok W hT
  have hinj : ∀ s, lineS x = some s → lineS y = some s → x = y := fun s h1 h2 => line_inj h1 h2 sx.1 sy.1
  refine spec_of Tryd.func6 rfl Tryd.ntmps6 rfl ?_
  intro w0 F
  refine sc_ent (Ent.ro_dup 7040 W F) ?_
  cases h1 : lineS x with
  | none =>
    rw [lineV_none h1] at hX
    cases h2 : lineS y with
    | none =>
      rw [lineV_none h2] at hY
      repeat' (first | with_reducible (first | refine go1 ?_ | refine sct ?_ | refine scf ?_ | refine sgr ?_) | with_reducible refine sw_box fun b2 => ?_ | ((with_reducible refine sw_callf hX ?_); rintro _ _ ⟨rfl, rfl⟩) | ((with_reducible refine sw_callf hY ?_); rintro _ _ ⟨rfl, rfl⟩) | ((with_reducible refine sw_callf hB ?_); rintro _ _ ⟨rfl, rfl⟩) | with_reducible refine sw_guard_skip_u ?_ | (with_reducible refine sc_cond (fun h => ?_) (fun h => ?_)) <;> (try (exfalso; first | contradiction | omega | exact h Iff.rfl)) | (with_reducible refine sw_guard_split (fun h => ?_) (fun h => ?_)) <;> (try (exfalso; first | contradiction | omega | exact h Iff.rfl)) | (with_reducible refine sw_pick (fun h => ?_) (fun h => ?_)) <;> (try (exfalso; first | contradiction | omega | exact h Iff.rfl)) | fail)
      refine sq_ret1 Tryd.results6 ?_
      refine ⟨_, ⟨rfl, rfl⟩, ?_⟩
      repeat' (first | with_reducible exact Ent.refl _ | with_reducible refine Ent.take_eq ?_ ?_ | rfl | with_reducible refine Ent.oR ?_ | with_reducible refine Ent.trans (oR.drop _ _ _) ?_ | with_reducible refine Ent.trans (Ent.drop _ _) ?_)
    | some s2 =>
      rw [lineV_some h2] at hY
      repeat' (first | with_reducible (first | refine go1 ?_ | refine sct ?_ | refine scf ?_ | refine sgr ?_) | with_reducible refine sw_box fun b2 => ?_ | ((with_reducible refine sw_callf hX ?_); rintro _ _ ⟨rfl, rfl⟩) | ((with_reducible refine sw_callf hY ?_); rintro _ _ ⟨rfl, rfl⟩) | ((with_reducible refine sw_callf hB ?_); rintro _ _ ⟨rfl, rfl⟩) | with_reducible refine sw_guard_skip_u ?_ | (with_reducible refine sc_cond (fun h => ?_) (fun h => ?_)) <;> (try (exfalso; first | contradiction | omega | exact h Iff.rfl)) | (with_reducible refine sw_guard_split (fun h => ?_) (fun h => ?_)) <;> (try (exfalso; first | contradiction | omega | exact h Iff.rfl)) | (with_reducible refine sw_pick (fun h => ?_) (fun h => ?_)) <;> (try (exfalso; first | contradiction | omega | exact h Iff.rfl)) | fail)
      refine sq_ret1 Tryd.results6 ?_
      refine ⟨_, ⟨rfl, rfl⟩, ?_⟩
      repeat' (first | with_reducible exact Ent.refl _ | with_reducible refine Ent.take_eq ?_ ?_ | rfl | with_reducible refine Ent.oR ?_ | with_reducible refine Ent.trans (oR.drop _ _ _) ?_ | with_reducible refine Ent.trans (Ent.drop _ _) ?_)
  | some s1 =>
    rw [lineV_some h1] at hX
    cases h2 : lineS y with
    | none =>
      rw [lineV_none h2] at hY
      repeat' (first | with_reducible (first | refine go1 ?_ | refine sct ?_ | refine scf ?_ | refine sgr ?_) | with_reducible refine sw_box fun b2 => ?_ | ((with_reducible refine sw_callf hX ?_); rintro _ _ ⟨rfl, rfl⟩) | ((with_reducible refine sw_callf hY ?_); rintro _ _ ⟨rfl, rfl⟩) | ((with_reducible refine sw_callf hB ?_); rintro _ _ ⟨rfl, rfl⟩) | with_reducible refine sw_guard_skip_u ?_ | (with_reducible refine sc_cond (fun h => ?_) (fun h => ?_)) <;> (try (exfalso; first | contradiction | omega | exact h Iff.rfl)) | (with_reducible refine sw_guard_split (fun h => ?_) (fun h => ?_)) <;> (try (exfalso; first | contradiction | omega | exact h Iff.rfl)) | (with_reducible refine sw_pick (fun h => ?_) (fun h => ?_)) <;> (try (exfalso; first | contradiction | omega | exact h Iff.rfl)) | fail)
      refine sq_ret1 Tryd.results6 ?_
      refine ⟨_, ⟨rfl, rfl⟩, ?_⟩
      repeat' (first | with_reducible exact Ent.refl _ | with_reducible refine Ent.take_eq ?_ ?_ | rfl | with_reducible refine Ent.oR ?_ | with_reducible refine Ent.trans (oR.drop _ _ _) ?_ | with_reducible refine Ent.trans (Ent.drop _ _) ?_)
    | some s2 =>
      rw [lineV_some h2] at hY
      repeat' (first | with_reducible (first | refine go1 ?_ | refine sct ?_ | refine scf ?_ | refine sgr ?_) | with_reducible refine sw_box fun b2 => ?_ | ((with_reducible refine sw_callf hX ?_); rintro _ _ ⟨rfl, rfl⟩) | ((with_reducible refine sw_callf hY ?_); rintro _ _ ⟨rfl, rfl⟩) | ((with_reducible refine sw_callf hB ?_); rintro _ _ ⟨rfl, rfl⟩) | ((with_reducible refine sw_callf hS ?_); rintro _ _ ⟨rfl, rfl⟩) | with_reducible refine sw_guard_skip_u ?_ | (with_reducible refine sc_cond (fun h => ?_) (fun h => ?_)) <;> (try (exfalso; first | contradiction | omega | exact h Iff.rfl)) | (with_reducible refine sw_guard_split (fun h => ?_) (fun h => ?_)) <;> (try (exfalso; first | contradiction | omega | exact h Iff.rfl)) | (with_reducible refine sw_pick (fun h => ?_) (fun h => ?_)) <;> (try (exfalso; first | contradiction | omega | exact h Iff.rfl)) | fail)
      refine sq_ret1 Tryd.results6 ?_
      have he : (decide (s1 = s2) == decide (x = y)) = true := by
        by_cases hs : s1 = s2
        · subst hs
          rw [decide_eq_true rfl, decide_eq_true (hinj _ h1 h2)]; rfl
        · rw [decide_eq_false hs, decide_eq_false (fun hxy => by subst hxy; rw [h1] at h2; exact hs (Option.some.inj h2))]; rfl
      refine ⟨_, ⟨by rw [he], rfl⟩, ?_⟩
      repeat' (first | with_reducible exact Ent.refl _ | with_reducible refine Ent.take_eq ?_ ?_ | rfl | with_reducible refine Ent.oR ?_ | with_reducible refine Ent.trans (oR.drop _ _ _) ?_ | with_reducible refine Ent.trans (Ent.drop _ _) ?_)
end Go.Gsl
