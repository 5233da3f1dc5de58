/- The document's reading of a text's end. -/
import Derived.Test.YtjfieigjicbldaaDoorGV
import Derived.Test.YtjfieigjicbldaaDoorGNB
import Derived.Test.YtjfieigjicbldaaDoorGE
import Derived.Test.YtjfieigjicbldaaDoorGVB
import Derived.Test.YtjfieigjicbldaaDoorGB
namespace Go.Gsl
set_option linter.unusedVariables false
open Go.Proofs

theorem hexT (c : UInt8) : Lib.indexByte digs c = if 48 ≤ iv c ∧ iv c ≤ 57 then iv c - 48 else if 97 ≤ iv c ∧ iv c ≤ 102 then iv c - 87 else -1 := by
  have h : ∀ k : Fin 256, Lib.indexByte digs (UInt8.ofNat k.val) = if 48 ≤ iv (UInt8.ofNat k.val) ∧ iv (UInt8.ofNat k.val) ≤ 57 then iv (UInt8.ofNat k.val) - 48 else if 97 ≤ iv (UInt8.ofNat k.val) ∧ iv (UInt8.ofNat k.val) ≤ 102 then iv (UInt8.ofNat k.val) - 87 else -1 := by decide +kernel
  have := h ⟨c.toNat, c.toNat_lt⟩
  simp only [UInt8.ofNat_toNat] at this
  exact this
theorem qHex_ok (c : UInt8) : Spec Tryd.prog 69 [.int .u8 (iv c)] [] [] fun F v Rs' => v = .int .i64 (Lib.indexByte digs c) ∧ Rs' = F := by
  have hc := iv_lt c
  have ht := hexT c
  refine spec_of Tryd.func69 rfl Tryd.ntmps69 rfl ?_
  intro w0 F
  repeat' (first | with_reducible refine sw_in (by omega) ?_ | with_reducible (first | refine go1 ?_ | refine sct ?_ | refine scf ?_ | refine sgr ?_) | with_reducible refine sw_guard_skip_u ?_ | (with_reducible refine sc_cond (fun h => ?_) (fun h => ?_)) <;> (try (exfalso; first | contradiction | omega | exact h Iff.rfl)) | (with_reducible refine sw_guard_split (fun h => ?_) (fun h => ?_)) <;> (try (exfalso; first | contradiction | omega | exact h Iff.rfl)) | (with_reducible refine sw_pick (fun h => ?_) (fun h => ?_)) <;> (try (exfalso; first | contradiction | omega | exact h Iff.rfl)) | fail)
  all_goals (refine sq_ret1 Tryd.results69 ?_)
  all_goals refine ⟨_, ⟨?_, rfl⟩, Ent.refl _⟩
  all_goals rw [ht]
  all_goals (first | (rw [if_pos (by omega)]; done) | (rw [if_neg (by omega), if_pos (by omega)]; congr 1; omega) | (rw [if_neg (by omega), if_neg (by omega)]))
end Go.Gsl

namespace Go.Gsl
set_option linter.unusedVariables false
open Go.Proofs

set_option maxHeartbeats 4000000 in
theorem qText_ok (s : Bs) (i0 : Nat) (h2 : s.length ≤ 1073741824) (h1 : i0 < s.length) : Spec Tryd.prog 50 [.string (sB s), .int .i64 (i0 : Int)] [] [] fun F v Rs' => Rs' = F ∧
    ((∃ t e, unq [] (s.drop (i0 + 1)) = some (t, s.drop e) ∧ i0 < e ∧ e ≤ s.length ∧ v = .tuple #[.string (sB t), .int .i64 (e : Int), .bool true]) ∨
     (∃ t e, unq [] (s.drop (i0 + 1)) = none ∧ v = .tuple #[.string (sB t), .int .i64 e, .bool false])) := by
  refine spec_of Tryd.func50 rfl Tryd.ntmps50 rfl ?_
  intro w0 F
  repeat' (first | with_reducible refine sw_in (by omega) ?_ | with_reducible (first | refine go1 ?_ | refine sct ?_ | refine scf ?_ | refine sgr ?_) | fail)
  refine sc_loop (α := { x : Nat × Bs × Option (Nat × List Value) // i0 < x.1 ∧ x.1 ≤ s.length ∧ x.2.1.length ≤ x.1 ∧ (x.2.2 = none → x.2.1 = []) ∧ unq x.2.1 (s.drop x.1) = unq [] (s.drop (i0 + 1)) })
    (fun x => [(0, .string (sB s)), (1, .int .i64 (x.1.1 : Int)), (7, bufV (x.1.2.1.map iv).length x.1.2.2)])
    (fun x => oR (vG .u8 5 (x.1.2.1.map iv)) F x.1.2.2) (fun x => s.length - x.1.1) ⟨(i0 + 1, [], none), Nat.lt_succ_self _, h1, Nat.zero_le _, fun _ => rfl, rfl⟩ ?_ ?_ ?_
  · repeat' (first | exact says_nil | refine says_cons rfl ?_ | refine says_cons (by simp) ?_)
  · exact Ent.refl _
  rintro ⟨⟨i, acc, o⟩, hi1, hi2, hi3, ho, hu⟩ e
  simp only at hi1 hi2 hi3 ho hu
  simp only [List.cons_append, List.nil_append]
  have hol : o = none → acc.map iv = [] := fun h => by rw [ho h]; rfl
  have hal : (acc.map iv).length = acc.length := List.length_map ..
  have hd0 : i < s.length → s.drop i = s.getD i 0 :: s.drop (i + 1) := drop_getD
  have hd1 : i + 1 < s.length → s.drop (i + 1) = s.getD (i + 1) 0 :: s.drop (i + 2) := drop_getD
  have hd2 : i + 2 < s.length → s.drop (i + 2) = s.getD (i + 2) 0 :: s.drop (i + 3) := drop_getD
  have hd3 : i + 3 < s.length → s.drop (i + 3) = s.getD (i + 3) 0 :: s.drop (i + 4) := drop_getD
  repeat' (first | with_reducible refine sw_in (by omega) ?_ | with_reducible (first | refine go1 ?_ | refine sct ?_ | refine scf ?_ | refine sgr ?_) | with_reducible refine sw_op (h := runop_sget (by first | omega | exact idx0 (by assumption))) ?_ | with_reducible refine sw_build1 fun b7 => ?_ | with_reducible refine sw_guard_skip_u ?_ | (with_reducible refine sc_cond (fun h => ?_) (fun h => ?_)) <;> (try (exfalso; first | contradiction | omega | exact h Iff.rfl)) | (with_reducible refine sw_guard_split (fun h => ?_) (fun h => ?_)) <;> (try (exfalso; first | contradiction | omega | exact h Iff.rfl)) | (with_reducible refine sw_pick (fun h => ?_) (fun h => ?_)) <;> (try (exfalso; first | contradiction | omega | exact h Iff.rfl)) | fail)
  all_goals (try simp only [Int.toNat_natCast, tn1, tn2, tn3, Int.toNat_zero, ne_eq, Classical.not_not] at *)
  · refine sc_lin ([]) (llp 0 (llp 2 (llp 3 (llp 4 (llp 5 (llp 6 (llp 7 (llp 8 (llp 9 (llp 10 (llp 11 (llp 12 (llp 13 (llp 14 (llp 15 (lle 1 (llp 16 (llp 17 (llp 18 ll0))))))))))))))))))) (by kernel_rfl) rfl (by kernel_rfl) ?_
    all_goals (iterate 2 refine go1l ?_)
    all_goals (first | refine sl_in (by omega) ?_ | refine go1l ?_)
    all_goals refine go1l ?_
    all_goals (first | refine sl_in (by omega) ?_ | refine go1l ?_)
    all_goals (iterate 4 refine go1l ?_)
    all_goals (first | refine go1l ?_ | ((refine sl_split 30 (fun h => ?_) (fun h => ?_)) <;> (try (exfalso; first | contradiction | omega | exact h Iff.rfl)) <;> refine go1l ?_))
    all_goals (first | refine go1l ?_ | ((refine sl_split 30 (fun h => ?_) (fun h => ?_)) <;> (try (exfalso; first | contradiction | omega | exact h Iff.rfl)) <;> refine go1l ?_))
    all_goals (first | (first | refine sl_in_g (by omega) ?_ | refine go1l ?_) | ((refine sl_split 30 (fun h => ?_) (fun h => ?_)) <;> (try (exfalso; first | contradiction | omega | exact h Iff.rfl)) <;> (first | refine sl_in_g (by omega) ?_ | refine go1l ?_)))
    all_goals (first | (first | refine sl_skip ?_ | refine sl_skip_u ?_ | refine sl_take_g (h := runop_sget (by omega)) ?_) | ((refine sl_split 30 (fun h => ?_) (fun h => ?_)) <;> (try (exfalso; first | contradiction | omega | exact h Iff.rfl)) <;> (first | refine sl_skip ?_ | refine sl_skip_u ?_ | refine sl_take_g (h := runop_sget (by omega)) ?_)))
    all_goals (first | refine go1l ?_ | ((refine sl_split 30 (fun h => ?_) (fun h => ?_)) <;> (try (exfalso; first | contradiction | omega | exact h Iff.rfl)) <;> refine go1l ?_))
    all_goals (first | refine go1l ?_ | ((refine sl_split 30 (fun h => ?_) (fun h => ?_)) <;> (try (exfalso; first | contradiction | omega | exact h Iff.rfl)) <;> refine go1l ?_))
    all_goals refine sl_eff ?_
    all_goals (repeat' (first | with_reducible (first | refine go1 ?_ | refine sct ?_ | refine scf ?_ | refine sgr ?_) | with_reducible refine sw_bytesV (el' := 5) (F := F) acc o ho ?_ | with_reducible refine sl_back ?_ | fail))
    all_goals (iterate 3 refine go1l ?_)
    all_goals refine sl_done ?_
    all_goals (repeat' (first | with_reducible (first | refine go1 ?_ | refine sct ?_ | refine scf ?_ | refine sgr ?_) | fail))
    all_goals (refine sq_ret3 Tryd.results50 ?_)
    · rename_i hq
      refine ⟨_, ⟨rfl, .inl ⟨acc, i + 1, ?_, by omega, by omega, ?_⟩⟩, ?_⟩
      · rw [← hu, hd0 (by omega)]; exact unq_q (by assumption) (List.drop_eq_nil_of_le (by omega))
      · rw [Int.natCast_add]; rfl
      · repeat' (first | with_reducible exact Ent.refl _ | with_reducible refine Ent.take_eq ?_ ?_ | rfl | with_reducible refine Ent.oR ?_ | with_reducible refine Ent.trans (oR.drop _ _ _) ?_ | with_reducible refine Ent.trans (Ent.drop _ _) ?_)
    · rename_i hq
      by_cases h32 : iv (s.getD (i + 1) 0) = 32
      · refine ⟨_, ⟨rfl, .inl ⟨acc, i + 1, ?_, by omega, by omega, ?_⟩⟩, ?_⟩
        · rw [← hu, hd0 (by omega)]; exact unq_q2 (by assumption) (by rw [hd1 (by omega)]; simp) (by rw [hd1 (by omega)]; exact h32)
        · rw [tn1, Int.natCast_add, decide_eq_true h32]; rfl
        · repeat' (first | with_reducible exact Ent.refl _ | with_reducible refine Ent.take_eq ?_ ?_ | rfl | with_reducible refine Ent.oR ?_ | with_reducible refine Ent.trans (oR.drop _ _ _) ?_ | with_reducible refine Ent.trans (Ent.drop _ _) ?_)
      · refine ⟨_, ⟨rfl, .inr ⟨acc, (i : Int) + 1, ?_, ?_⟩⟩, ?_⟩
        · rw [← hu, hd0 (by omega)]; exact unq_qn (by assumption) (by rw [hd1 (by omega)]; simp) (by rw [hd1 (by omega)]; exact h32)
        · rw [tn1, decide_eq_false h32]
        · repeat' (first | with_reducible exact Ent.refl _ | with_reducible refine Ent.take_eq ?_ ?_ | rfl | with_reducible refine Ent.oR ?_ | with_reducible refine Ent.trans (oR.drop _ _ _) ?_ | with_reducible refine Ent.trans (Ent.drop _ _) ?_)
  · refine sw_appendV1 (kd := .u8) (b7 := b7) (acc.map iv) (iv (s.getD i 0)) o hol ⟨by omega, by omega⟩ fun o' ho' => ?_
    repeat' (first | with_reducible refine sw_in (by omega) ?_ | with_reducible (first | refine go1 ?_ | refine sct ?_ | refine scf ?_ | refine sgr ?_) | fail)
    refine sq_round ⟨(i + 1, acc ++ [s.getD i 0], o'), by omega, by omega, by simp only [List.length_append, List.length_cons, List.length_nil]; omega, fun h => absurd h ho', ?_⟩ (by show s.length - (i + 1) < s.length - i; omega) ?_ ?_
    · rw [← hu, hd0 (by omega)]; exact (unq_c (by assumption) (by assumption)).symm
    · show says _ [(0, .string (sB s)), (1, .int .i64 ((i + 1 : Nat) : Int)), (7, bufV ((acc ++ [s.getD i 0]).map iv).length o')]
      simp only [List.map_append, List.map_cons, List.map_nil, Int.natCast_add]
      repeat' (first | exact says_nil | refine says_cons rfl ?_ | refine says_cons (by simp) ?_)
    · show Ent _ (oR (vG .u8 5 ((acc ++ [s.getD i 0]).map iv)) F o')
      simp only [List.map_append, List.map_cons, List.map_nil]
      repeat' (first | with_reducible exact Ent.refl _ | with_reducible refine Ent.take_eq ?_ ?_ | rfl | with_reducible refine Ent.oR ?_ | with_reducible refine Ent.trans (oR.drop _ _ _) ?_ | with_reducible refine Ent.trans (Ent.drop _ _) ?_)
  · refine sw_appendV1 (kd := .u8) (b7 := b7) (acc.map iv) (iv (s.getD (i + 1) 0)) o hol ⟨by omega, by omega⟩ fun o' ho' => ?_
    repeat' (first | with_reducible refine sw_in (by omega) ?_ | with_reducible (first | refine go1 ?_ | refine sct ?_ | refine scf ?_ | refine sgr ?_) | fail)
    refine sq_round ⟨(i + 2, acc ++ [s.getD (i + 1) 0], o'), by omega, by omega, by simp only [List.length_append, List.length_cons, List.length_nil]; omega, fun h => absurd h ho', ?_⟩ (by show s.length - (i + 2) < s.length - i; omega) ?_ ?_
    · rw [← hu, hd0 (by omega), hd1 (by omega)]; exact (unq_e1 (by assumption) (by assumption) (by assumption)).symm
    · show says _ [(0, .string (sB s)), (1, .int .i64 ((i + 2 : Nat) : Int)), (7, bufV ((acc ++ [s.getD (i + 1) 0]).map iv).length o')]
      simp only [List.map_append, List.map_cons, List.map_nil, show ((i + 2 : Nat) : Int) = (i : Int) + 1 + 1 by omega]
      repeat' (first | exact says_nil | refine says_cons rfl ?_ | refine says_cons (by simp) ?_)
    · show Ent _ (oR (vG .u8 5 ((acc ++ [s.getD (i + 1) 0]).map iv)) F o')
      simp only [List.map_append, List.map_cons, List.map_nil]
      repeat' (first | with_reducible exact Ent.refl _ | with_reducible refine Ent.take_eq ?_ ?_ | rfl | with_reducible refine Ent.oR ?_ | with_reducible refine Ent.trans (oR.drop _ _ _) ?_ | with_reducible refine Ent.trans (Ent.drop _ _) ?_)
  · refine sw_appendV1 (kd := .u8) (b7 := b7) (acc.map iv) (iv (s.getD (i + 1) 0)) o hol ⟨by omega, by omega⟩ fun o' ho' => ?_
    repeat' (first | with_reducible refine sw_in (by omega) ?_ | with_reducible (first | refine go1 ?_ | refine sct ?_ | refine scf ?_ | refine sgr ?_) | fail)
    refine sq_round ⟨(i + 2, acc ++ [s.getD (i + 1) 0], o'), by omega, by omega, by simp only [List.length_append, List.length_cons, List.length_nil]; omega, fun h => absurd h ho', ?_⟩ (by show s.length - (i + 2) < s.length - i; omega) ?_ ?_
    · rw [← hu, hd0 (by omega), hd1 (by omega)]; exact (unq_e2 (by assumption) (by assumption) (by assumption)).symm
    · show says _ [(0, .string (sB s)), (1, .int .i64 ((i + 2 : Nat) : Int)), (7, bufV ((acc ++ [s.getD (i + 1) 0]).map iv).length o')]
      simp only [List.map_append, List.map_cons, List.map_nil, show ((i + 2 : Nat) : Int) = (i : Int) + 1 + 1 by omega]
      repeat' (first | exact says_nil | refine says_cons rfl ?_ | refine says_cons (by simp) ?_)
    · show Ent _ (oR (vG .u8 5 ((acc ++ [s.getD (i + 1) 0]).map iv)) F o')
      simp only [List.map_append, List.map_cons, List.map_nil]
      repeat' (first | with_reducible exact Ent.refl _ | with_reducible refine Ent.take_eq ?_ ?_ | rfl | with_reducible refine Ent.oR ?_ | with_reducible refine Ent.trans (oR.drop _ _ _) ?_ | with_reducible refine Ent.trans (Ent.drop _ _) ?_)
  · have hA := qHex_ok (s.getD (i + 2) 0)
    have hB := qHex_ok (s.getD (i + 3) 0)
    have hA1 := hex_lt (s.getD (i + 2) 0)
    have hB1 := hex_lt (s.getD (i + 3) 0)
    have hx := unq_x (acc := acc) (r := s.drop (i + 4)) (x := s.getD i 0) (y := s.getD (i + 1) 0) (a := s.getD (i + 2) 0) (b := s.getD (i + 3) 0) (by assumption) (by assumption) (by assumption)
    rw [← hd3 (by omega), ← hd2 (by omega), ← hd1 (by omega), ← hd0 (by omega), hu] at hx
    obtain ⟨A, hAe⟩ : ∃ A, Lib.indexByte digs (s.getD (i + 2) 0) = A := ⟨_, rfl⟩
    obtain ⟨B, hBe⟩ : ∃ B, Lib.indexByte digs (s.getD (i + 3) 0) = B := ⟨_, rfl⟩
    rw [hAe] at hA hA1 hx
    rw [hBe] at hB hB1 hx
    repeat' (first | with_reducible refine sw_in (by omega) ?_ | with_reducible (first | refine go1 ?_ | refine sct ?_ | refine scf ?_ | refine sgr ?_) | with_reducible refine sw_op (h := runop_sget (by omega)) ?_ | ((with_reducible refine sw_callf hA ?_); rintro _ _ ⟨rfl, rfl⟩) | ((with_reducible refine sw_callf hB ?_); rintro _ _ ⟨rfl, rfl⟩) | with_reducible refine sw_guard_skip_u ?_ | (with_reducible refine sc_cond (fun h => ?_) (fun h => ?_)) <;> (try (exfalso; first | contradiction | omega | exact h Iff.rfl)) | (with_reducible refine sw_guard_split (fun h => ?_) (fun h => ?_)) <;> (try (exfalso; first | contradiction | omega | exact h Iff.rfl)) | (with_reducible refine sw_pick (fun h => ?_) (fun h => ?_)) <;> (try (exfalso; first | contradiction | omega | exact h Iff.rfl)) | fail)
    · rename_i hA0 hB0
      rw [if_neg (by omega)] at hx
      have hv : 16 * A + B = iv (UInt8.ofNat (16 * A.toNat + B.toNat)) := by rw [iv_ofNat _ (by omega)]; omega
      obtain ⟨c, hce⟩ : ∃ c, UInt8.ofNat (16 * A.toNat + B.toNat) = c := ⟨_, rfl⟩
      rw [hce] at hx hv
      refine sc_lin ([]) (llp 0 (llp 1 (llp 2 (llp 3 (llp 4 (llp 7 (llp 8 (llp 9 (llp 10 (lle 5 (llp 6 (lle 11 (llp 12 (llp 13 (lle 14 (lle 15 (llp 16 ll0))))))))))))))))) (by kernel_rfl) rfl (by kernel_rfl) ?_
      all_goals (iterate 3 refine go1l ?_)
      all_goals (first | refine sl_in (by omega) ?_ | refine go1l ?_)
      all_goals refine sl_take (h := runop_sget (by omega)) ?_
      all_goals (iterate 2 refine go1l ?_)
      all_goals (first | refine sl_in (by omega) ?_ | refine go1l ?_)
      all_goals refine sl_take (h := runop_sget (by omega)) ?_
      all_goals refine sl_eff ?_
      all_goals (repeat' (first | with_reducible (first | refine go1 ?_ | refine sct ?_ | refine scf ?_ | refine sgr ?_) | ((with_reducible refine sw_callf hA ?_); rintro _ _ ⟨rfl, rfl⟩) | ((with_reducible refine sw_callf hB ?_); rintro _ _ ⟨rfl, rfl⟩) | with_reducible refine sw_build1 fun b7 => ?_ | with_reducible refine sw_appendV1 (kd := .u8) (b7 := b7) (acc.map iv) (16 * A + B) o hol ⟨by omega, by omega⟩ fun o' ho' => ?_ | with_reducible refine sl_back ?_ | fail))
      all_goals (first | refine sl_in (by omega) ?_ | refine go1l ?_)
      all_goals refine sl_eff ?_
      all_goals (repeat' (first | with_reducible (first | refine go1 ?_ | refine sct ?_ | refine scf ?_ | refine sgr ?_) | ((with_reducible refine sw_callf hA ?_); rintro _ _ ⟨rfl, rfl⟩) | ((with_reducible refine sw_callf hB ?_); rintro _ _ ⟨rfl, rfl⟩) | with_reducible refine sw_build1 fun b7 => ?_ | with_reducible refine sw_appendV1 (kd := .u8) (b7 := b7) (acc.map iv) (16 * A + B) o hol ⟨by omega, by omega⟩ fun o' ho' => ?_ | with_reducible refine sl_back ?_ | fail))
      all_goals (first | refine sl_in (by omega) ?_ | refine go1l ?_)
      all_goals (first | refine sl_in (by omega) ?_ | refine go1l ?_)
      all_goals refine sl_eff ?_
      all_goals (repeat' (first | with_reducible (first | refine go1 ?_ | refine sct ?_ | refine scf ?_ | refine sgr ?_) | ((with_reducible refine sw_callf hA ?_); rintro _ _ ⟨rfl, rfl⟩) | ((with_reducible refine sw_callf hB ?_); rintro _ _ ⟨rfl, rfl⟩) | with_reducible refine sw_build1 fun b7 => ?_ | with_reducible refine sw_appendV1 (kd := .u8) (b7 := b7) (acc.map iv) (16 * A + B) o hol ⟨by omega, by omega⟩ fun o' ho' => ?_ | with_reducible refine sl_back ?_ | fail))
      all_goals refine sl_eff ?_
      all_goals (repeat' (first | with_reducible (first | refine go1 ?_ | refine sct ?_ | refine scf ?_ | refine sgr ?_) | ((with_reducible refine sw_callf hA ?_); rintro _ _ ⟨rfl, rfl⟩) | ((with_reducible refine sw_callf hB ?_); rintro _ _ ⟨rfl, rfl⟩) | with_reducible refine sw_build1 fun b7 => ?_ | with_reducible refine sw_appendV1 (kd := .u8) (b7 := b7) (acc.map iv) (16 * A + B) o hol ⟨by omega, by omega⟩ fun o' ho' => ?_ | with_reducible refine sl_back ?_ | fail))
      all_goals refine go1l ?_
      all_goals refine sl_done ?_
      all_goals (repeat' (first | with_reducible refine sw_in (by omega) ?_ | with_reducible (first | refine go1 ?_ | refine sct ?_ | refine scf ?_ | refine sgr ?_) | fail))
      all_goals refine sq_round ⟨(i + 4, acc ++ [c], o'), by omega, by omega, by simp only [List.length_append, List.length_cons, List.length_nil]; omega, fun h => absurd h ho', hx.symm⟩ (by show s.length - (i + 4) < s.length - i; omega) ?_ ?_
      · show says _ [(0, .string (sB s)), (1, .int .i64 ((i + 4 : Nat) : Int)), (7, bufV ((acc ++ [c]).map iv).length o')]
        simp only [List.map_append, List.map_cons, List.map_nil, ← hv, show ((i + 4 : Nat) : Int) = (i : Int) + 3 + 1 by omega]
        repeat' (first | exact says_nil | refine says_cons rfl ?_ | refine says_cons (by simp) ?_)
      · show Ent _ (oR (vG .u8 5 ((acc ++ [c]).map iv)) F o')
        simp only [List.map_append, List.map_cons, List.map_nil, ← hv]
        repeat' (first | with_reducible exact Ent.refl _ | with_reducible refine Ent.take_eq ?_ ?_ | rfl | with_reducible refine Ent.oR ?_ | with_reducible refine Ent.trans (oR.drop _ _ _) ?_ | with_reducible refine Ent.trans (Ent.drop _ _) ?_)
    · refine sq_ret3 Tryd.results50 ?_
      refine ⟨_, ⟨rfl, .inr ⟨[], 0, ?_, rfl⟩⟩, ?_⟩
      · rw [hx, if_pos (.inr (by omega))]
      · repeat' (first | with_reducible exact Ent.refl _ | with_reducible refine Ent.take_eq ?_ ?_ | rfl | with_reducible refine Ent.oR ?_ | with_reducible refine Ent.trans (oR.drop _ _ _) ?_ | with_reducible refine Ent.trans (Ent.drop _ _) ?_)
    · refine sq_ret3 Tryd.results50 ?_
      refine ⟨_, ⟨rfl, .inr ⟨[], 0, ?_, rfl⟩⟩, ?_⟩
      · rw [hx, if_pos (.inl (by omega))]
      · repeat' (first | with_reducible exact Ent.refl _ | with_reducible refine Ent.take_eq ?_ ?_ | rfl | with_reducible refine Ent.oR ?_ | with_reducible refine Ent.trans (oR.drop _ _ _) ?_ | with_reducible refine Ent.trans (Ent.drop _ _) ?_)
  · refine sq_ret3 Tryd.results50 ?_
    refine ⟨_, ⟨rfl, .inr ⟨[], 0, ?_, rfl⟩⟩, ?_⟩
    · rw [← hu, hd0 (by omega), hd1 (by omega)]; exact unq_b3 (by assumption) (by assumption) (by assumption) (by assumption) (by assumption)
    · repeat' (first | with_reducible exact Ent.refl _ | with_reducible refine Ent.take_eq ?_ ?_ | rfl | with_reducible refine Ent.oR ?_ | with_reducible refine Ent.trans (oR.drop _ _ _) ?_ | with_reducible refine Ent.trans (Ent.drop _ _) ?_)
  · refine sq_ret3 Tryd.results50 ?_
    refine ⟨_, ⟨rfl, .inr ⟨[], 0, ?_, rfl⟩⟩, ?_⟩
    · rw [← hu, hd0 (by omega), hd1 (by omega)]; exact unq_b2 (by assumption) (by assumption) (by assumption) (by assumption) (by rw [List.length_drop]; omega)
    · repeat' (first | with_reducible exact Ent.refl _ | with_reducible refine Ent.take_eq ?_ ?_ | rfl | with_reducible refine Ent.oR ?_ | with_reducible refine Ent.trans (oR.drop _ _ _) ?_ | with_reducible refine Ent.trans (Ent.drop _ _) ?_)
  · refine sq_ret3 Tryd.results50 ?_
    refine ⟨_, ⟨rfl, .inr ⟨[], 0, ?_, rfl⟩⟩, ?_⟩
    · rw [← hu, hd0 (by omega), List.drop_eq_nil_of_le (by omega)]; exact unq_b1 (by assumption) (by assumption)
    · repeat' (first | with_reducible exact Ent.refl _ | with_reducible refine Ent.take_eq ?_ ?_ | rfl | with_reducible refine Ent.oR ?_ | with_reducible refine Ent.trans (oR.drop _ _ _) ?_ | with_reducible refine Ent.trans (Ent.drop _ _) ?_)
  · refine sq_ret3 Tryd.results50 ?_
    refine ⟨_, ⟨rfl, .inr ⟨[], 0, ?_, rfl⟩⟩, ?_⟩
    · rw [← hu, List.drop_eq_nil_of_le (by omega)]; rfl
    · repeat' (first | with_reducible exact Ent.refl _ | with_reducible refine Ent.take_eq ?_ ?_ | rfl | with_reducible refine Ent.oR ?_ | with_reducible refine Ent.trans (oR.drop _ _ _) ?_ | with_reducible refine Ent.trans (Ent.drop _ _) ?_)
end Go.Gsl

namespace Go.Gsl
set_option linter.unusedVariables false
open Go.Proofs

section
variable {P : Program} {n : Nat} {w0 : World} {e : Env} {Rs : List Res} {ty : TypeId} {x y z : Operand} {t : TypeId} {a : Bs}
/-- s[i:j] -/
theorem runop_spart {k k' : IntKind} {i j : Int} (h0 : 0 ≤ i ∧ i ≤ j ∧ j ≤ a.length) [hx : Ev n e x (.string ⟨a.toArray⟩)] [hy : Ev n e y (.int k i)] [hz : Ev n e z (.int k' j)] [hu : Und P t .string] : RunOp P n w0 e Rs (.slice t x (some y) (some z) none) ty (.string ⟨((a.take j.toNat).drop i.toNat).toArray⟩) :=
  @RunOp.pure P n w0 e Rs _ _ _ ⟨fun o h1 _ w => by
    unfold execOp; rw [h1]
    have h3 : ((sB a).size : Int) = a.length := by rw [sB_size]
    have := run_slice_string (P := P) w t (sB a) k k' i j hu.out h0.1 h0.2.1 (by omega)
    rw [sB_extract] at this
    simp only [Instr.sliceAt, Option.map_some, Option.map_none, hx.out, hy.out, hz.out, Sem.run_bind, run_und (t := t), Result.andThen_ok]
    simp [this]⟩
end
theorem drop_take {s : Bs} {i k : Nat} (h1 : i ≤ k) (h2 : k ≤ s.length) : s.drop i = (s.take k).drop i ++ s.drop k := by
  conv => lhs; rw [← List.take_append_drop k s]
  rw [List.drop_append, List.length_take]
  congr 1
  rw [show i - min k s.length = 0 by omega, List.drop_zero]
theorem dropW_app {p : UInt8 → Bool} : ∀ (a b : Bs), a.all p = true → (a ++ b).dropWhile p = b.dropWhile p ∧ (a ++ b).takeWhile p = a ++ b.takeWhile p
  | [], b, _ => ⟨rfl, rfl⟩
  | x :: a, b, h => by
    rw [List.all_cons, Bool.and_eq_true] at h
    have ih := dropW_app a b h.2
    rw [List.cons_append, List.dropWhile_cons, if_pos h.1, List.takeWhile_cons, if_pos h.1, ih.2]
    exact ⟨ih.1, rfl⟩
/-- a word's end is found -/
theorem word_at {s : Bs} {i k : Nat} {d : UInt8} (h1 : i ≤ k) (h2 : k ≤ s.length) (ha : ((s.take k).drop i).all (· != d) = true) (he : k = s.length ∨ s.getD k 0 = d) :
    cutW d (s.drop i) = (s.take k).drop i ∧ (s.drop i).dropWhile (· != d) = s.drop k := by
  have h3 := dropW_app ((s.take k).drop i) (s.drop k) ha
  rw [← drop_take h1 h2] at h3
  unfold cutW
  rw [h3.1, h3.2]
  rcases Nat.lt_or_ge k s.length with hk | hk
  · have hd := he.resolve_left (by omega)
    rw [drop_getD hk, hd, List.dropWhile_cons, if_neg (by simp), List.takeWhile_cons, if_neg (by simp), List.append_nil]
    exact ⟨rfl, rfl⟩
  · rw [List.drop_eq_nil_of_le hk]; simp
theorem part_step {s : Bs} {i k : Nat} (h1 : i ≤ k) (h2 : k < s.length) : (s.take (k + 1)).drop i = (s.take k).drop i ++ [s.getD k 0] := by
  have h3 : s.take (k + 1) = s.take k ++ [s.getD k 0] := by rw [List.take_add_one, List.getElem?_eq_getElem h2, List.getD_eq_getElem?_getD, List.getElem?_eq_getElem h2]; rfl
  rw [h3, List.drop_append, List.length_take, show i - min k s.length = 0 by omega, List.drop_zero]

set_option maxHeartbeats 4000000 in
theorem qTokens_ok (s : Bs) (hs : s.length ≤ 1073741824) : Spec Tryd.prog 27 [.string (sB s)] [] [] fun F v Rs' =>
    (∃ l o, wordsL s = some l ∧ NOk 2 (tokC l) l.length o ∧ v = .tuple #[nV l.length o, .bool true] ∧ Rs' = oR (nG 63 (tokC l)) F o) ∨
    (wordsL s = none ∧ v = .tuple #[.slice none 0 0, .bool false] ∧ Rs' = F) := by
  refine spec_of Tryd.func27 rfl Tryd.ntmps27 rfl ?_
  intro w0 F
  repeat' (first | with_reducible (first | refine go1 ?_ | refine sct ?_ | refine scf ?_ | refine sgr ?_) | fail)
  refine sc_loop (α := { x : Nat × List Tok × Option (Nat × Nat × List Value) // x.1 ≤ s.length ∧ x.2.1.length ≤ x.1 ∧ NOk 2 (tokC x.2.1) x.2.1.length x.2.2 ∧ (wordsL (s.drop x.1)).map (x.2.1 ++ ·) = wordsL s })
    (fun x => [(0, .string (sB s)), (5, .int .i64 (x.1.1 : Int)), (4, nV x.1.2.1.length x.1.2.2)]) (fun x => oR (nG 63 (tokC x.1.2.1)) F x.1.2.2) (fun x => s.length - x.1.1) ⟨(0, [], none), Nat.zero_le _, Nat.le_refl _, ?_, by show Option.map _ (wordsL s) = _; cases wordsL s <;> simp⟩ ?_ ?_ ?_
  · exact ⟨rfl, fun _ => ⟨rfl, rfl⟩, fun b c t h => by cases h⟩
  · repeat' (first | exact says_nil | refine says_cons rfl ?_ | refine says_cons (by simp) ?_)
  · exact Ent.refl _
  rintro ⟨⟨i, l, o⟩, hi1, hl, ho, hx⟩ e
  simp only at hi1 hl ho hx
  simp only [List.cons_append, List.nil_append]
  have hd0 : i < s.length → s.drop i = s.getD i 0 :: s.drop (i + 1) := drop_getD
  repeat' (first | with_reducible refine sw_in (by omega) ?_ | with_reducible (first | refine go1 ?_ | refine sct ?_ | refine scf ?_ | refine sgr ?_) | with_reducible refine sw_op (h := runop_sget (by omega)) ?_ | with_reducible refine sw_guard_skip_u ?_ | (with_reducible refine sc_cond (fun h => ?_) (fun h => ?_)) <;> (try (exfalso; first | contradiction | omega | exact h Iff.rfl)) | (with_reducible refine sw_guard_split (fun h => ?_) (fun h => ?_)) <;> (try (exfalso; first | contradiction | omega | exact h Iff.rfl)) | (with_reducible refine sw_pick (fun h => ?_) (fun h => ?_)) <;> (try (exfalso; first | contradiction | omega | exact h Iff.rfl)) | fail)
  all_goals (try simp only [Int.toNat_natCast] at *)
  · refine sq_round ⟨(i + 1, l, o), by omega, by dsimp only; omega, ho, by rw [← hx, hd0 (by omega), show s.getD i 0 = 32 from iv_inj h, ws_sp]⟩ (by show s.length - (i + 1) < s.length - i; omega) ?_ ?_
    · repeat' (first | exact says_nil | refine says_cons rfl ?_ | refine says_cons (by simp) ?_)
    · exact Ent.refl _
  · refine sq_ret2 Tryd.results27 ?_
    refine ⟨_, .inl ⟨l, o, ?_, ho, rfl, rfl⟩, Ent.refl _⟩
    rw [← hx, hd0 (by omega), show s.getD i 0 = 35 from iv_inj h, ws_hash2]; simp
  · rw [hd0 (by omega), show s.getD i 0 = 34 from iv_inj h, ws_txt] at hx
    refine sw_callf (qText_ok s i hs (by omega)) ?_
    rintro _ _ ⟨rfl, (⟨t, j, hu, hj1, hj2, rfl⟩ | ⟨t, j, hu, rfl⟩)⟩
    · rw [hu] at hx
      simp only at hx
      rw [map_app] at hx
      repeat' (first | with_reducible (first | refine go1 ?_ | refine sct ?_ | refine scf ?_ | refine sgr ?_) | with_reducible refine sw_build (Tok.cs ⟨t, true⟩) (by kernel_rfl) ?_ | with_reducible refine sw_buildSliceN (Tok.cs ⟨t, true⟩) ⟨by omega, by omega, by omega⟩ (by kernel_rfl) fun b7 => ?_ | fail)
      refine sw_appendNV (sz := 2) (b7 := b7) (tokC l) (Tok.cs ⟨t, true⟩) l.length o ho (tok_one _) rfl (by omega) ⟨rfl, by omega, by omega⟩ fun o' ho' hN => ?_
      repeat' (first | with_reducible (first | refine go1 ?_ | refine sct ?_ | refine scf ?_ | refine sgr ?_) | fail)
      refine sq_round ⟨(j, l ++ [⟨t, true⟩], o'), hj2, by simp only [List.length_append, List.length_cons, List.length_nil]; omega, by rw [List.length_append, tokC_app, tokC_one]; exact hN, hx⟩ (by show s.length - j < s.length - i; omega) ?_ ?_
      · show says _ [(0, .string (sB s)), (5, .int .i64 (j : Int)), (4, nV (l ++ [(⟨t, true⟩ : Tok)]).length o')]
        rw [List.length_append]
        repeat' (first | exact says_nil | refine says_cons rfl ?_ | refine says_cons (by simp) ?_)
      · show Ent _ (oR (nG 63 (tokC (l ++ [⟨t, true⟩]))) F o')
        rw [tokC_app, tokC_one]
        repeat' (first | with_reducible exact Ent.refl _ | with_reducible refine Ent.take_eq ?_ ?_ | rfl | with_reducible refine Ent.oR ?_ | with_reducible refine Ent.trans (oR.drop _ _ _) ?_ | with_reducible refine Ent.trans (Ent.drop _ _) ?_)
    · rw [hu] at hx
      repeat' (first | with_reducible (first | refine go1 ?_ | refine sct ?_ | refine scf ?_ | refine sgr ?_) | fail)
      refine sq_ret2 Tryd.results27 ?_
      refine ⟨_, .inr ⟨hx.symm, rfl, rfl⟩, ?_⟩
      repeat' (first | with_reducible exact Ent.refl _ | with_reducible refine Ent.take_eq ?_ ?_ | rfl | with_reducible refine Ent.oR ?_ | with_reducible refine Ent.trans (oR.drop _ _ _) ?_ | with_reducible refine Ent.trans (Ent.drop _ _) ?_)
  · refine sc_keep [0, 4, 5, 9] fun e1 => ?_
    simp only [List.cons_append, List.nil_append]
    refine sc_loop (α := { k : Nat // i ≤ k ∧ k ≤ s.length ∧ ((s.take k).drop i).all (· != 32) = true }) (fun k => [(0, .string (sB s)), (4, nV l.length o), (5, .int .i64 (i : Int)), (9, .int .i64 (k.1 : Int))]) (fun _ => oR (nG 63 (tokC l)) F o) (fun k => s.length - k.1)
      ⟨i, Nat.le_refl _, hi1, by rw [List.drop_eq_nil_of_le (by rw [List.length_take]; omega)]; rfl⟩ ?_ ?_ ?_
    · repeat' (first | exact says_nil | refine says_cons rfl ?_ | refine says_cons (by simp) ?_)
    · exact Ent.refl _
    rintro ⟨k, hk1, hk2, hk3⟩ e
    simp only [List.cons_append, List.nil_append]
    have hfin : (k = s.length ∨ s.getD k 0 = 32) → i < k ∧ (wordsL (s.drop k)).map ((l ++ [⟨(s.take k).drop i, false⟩]) ++ ·) = wordsL s := fun he => by
      have hw := word_at hk1 hk2 hk3 he
      refine ⟨?_, ?_⟩
      · rcases Nat.lt_or_ge i k with h' | h'
        · exact h'
        · have : k = i := by omega
          subst this
          rcases he with h' | h'
          · omega
          · exact absurd (by rw [h']; rfl) (show ¬ iv (s.getD k 0) = 32 by assumption)
      · rw [← hx]
        have h4 := ws_word (c := s.getD i 0) (r := s.drop (i + 1)) (by assumption) (by assumption) (by assumption)
        rw [← hd0 (by omega), hw.1, hw.2] at h4
        rw [h4, map_app]
    repeat' (first | with_reducible refine sw_in (by omega) ?_ | with_reducible (first | refine go1 ?_ | refine sct ?_ | refine scf ?_ | refine sgr ?_) | with_reducible refine sw_op (h := runop_sget (by omega)) ?_ | with_reducible refine sw_op (h := runop_spart (by omega)) ?_ | with_reducible refine sw_guard_skip_u ?_ | (with_reducible refine sc_cond (fun h => ?_) (fun h => ?_)) <;> (try (exfalso; first | contradiction | omega | exact h Iff.rfl)) | (with_reducible refine sw_guard_split (fun h => ?_) (fun h => ?_)) <;> (try (exfalso; first | contradiction | omega | exact h Iff.rfl)) | (with_reducible refine sw_pick (fun h => ?_) (fun h => ?_)) <;> (try (exfalso; first | contradiction | omega | exact h Iff.rfl)) | fail)
    all_goals (try simp only [Int.toNat_natCast, ne_eq, Classical.not_not] at *)
    · refine sq_round ⟨k + 1, by omega, by omega, ?_⟩ (by show s.length - (k + 1) < s.length - k; omega) ?_ ?_
      · rw [part_step hk1 (by omega), List.all_append, hk3]
        have : s.getD k 0 ≠ 32 := fun g => h (by rw [g]; rfl)
        simpa using this
      · repeat' (first | exact says_nil | refine says_cons rfl ?_ | refine says_cons (by simp) ?_)
      · exact Ent.refl _
    · obtain ⟨hik, hx⟩ := hfin (by first | exact .inr (iv_inj h) | exact .inl (by omega))
      clear hfin
      obtain ⟨t, ht⟩ : ∃ t, (s.take k).drop i = t := ⟨_, rfl⟩
      rw [ht] at hx ⊢
      repeat' (first | with_reducible (first | refine go1 ?_ | refine sct ?_ | refine scf ?_ | refine sgr ?_) | with_reducible refine sw_build (Tok.cs ⟨t, false⟩) (by kernel_rfl) ?_ | with_reducible refine sw_buildSliceN (Tok.cs ⟨t, false⟩) ⟨by omega, by omega, by omega⟩ (by kernel_rfl) fun b7 => ?_ | fail)
      refine sw_appendNV (sz := 2) (b7 := b7) (tokC l) (Tok.cs ⟨t, false⟩) l.length o ho (tok_one _) rfl (by omega) ⟨rfl, by omega, by omega⟩ fun o' ho' hN => ?_
      repeat' (first | with_reducible (first | refine go1 ?_ | refine sct ?_ | refine scf ?_ | refine sgr ?_) | fail)
      refine sq_round ⟨(k, l ++ [⟨t, false⟩], o'), hk2, by simp only [List.length_append, List.length_cons, List.length_nil]; omega, by rw [List.length_append, tokC_app, tokC_one]; exact hN, hx⟩ (by show s.length - k < s.length - i; omega) ?_ ?_
      · show says _ [(0, .string (sB s)), (5, .int .i64 (k : Int)), (4, nV (l ++ [(⟨t, false⟩ : Tok)]).length o')]
        rw [List.length_append]
        repeat' (first | exact says_nil | refine says_cons rfl ?_ | refine says_cons (by simp) ?_)
      · show Ent _ (oR (nG 63 (tokC (l ++ [⟨t, false⟩]))) F o')
        rw [tokC_app, tokC_one]
        repeat' (first | with_reducible exact Ent.refl _ | with_reducible refine Ent.take_eq ?_ ?_ | rfl | with_reducible refine Ent.oR ?_ | with_reducible refine Ent.trans (oR.drop _ _ _) ?_ | with_reducible refine Ent.trans (Ent.drop _ _) ?_)
    · obtain ⟨hik, hx⟩ := hfin (by first | exact .inr (iv_inj h) | exact .inl (by omega))
      clear hfin
      obtain ⟨t, ht⟩ : ∃ t, (s.take k).drop i = t := ⟨_, rfl⟩
      rw [ht] at hx ⊢
      repeat' (first | with_reducible (first | refine go1 ?_ | refine sct ?_ | refine scf ?_ | refine sgr ?_) | with_reducible refine sw_build (Tok.cs ⟨t, false⟩) (by kernel_rfl) ?_ | with_reducible refine sw_buildSliceN (Tok.cs ⟨t, false⟩) ⟨by omega, by omega, by omega⟩ (by kernel_rfl) fun b7 => ?_ | fail)
      refine sw_appendNV (sz := 2) (b7 := b7) (tokC l) (Tok.cs ⟨t, false⟩) l.length o ho (tok_one _) rfl (by omega) ⟨rfl, by omega, by omega⟩ fun o' ho' hN => ?_
      repeat' (first | with_reducible (first | refine go1 ?_ | refine sct ?_ | refine scf ?_ | refine sgr ?_) | fail)
      refine sq_round ⟨(k, l ++ [⟨t, false⟩], o'), hk2, by simp only [List.length_append, List.length_cons, List.length_nil]; omega, by rw [List.length_append, tokC_app, tokC_one]; exact hN, hx⟩ (by show s.length - k < s.length - i; omega) ?_ ?_
      · show says _ [(0, .string (sB s)), (5, .int .i64 (k : Int)), (4, nV (l ++ [(⟨t, false⟩ : Tok)]).length o')]
        rw [List.length_append]
        repeat' (first | exact says_nil | refine says_cons rfl ?_ | refine says_cons (by simp) ?_)
      · show Ent _ (oR (nG 63 (tokC (l ++ [⟨t, false⟩]))) F o')
        rw [tokC_app, tokC_one]
        repeat' (first | with_reducible exact Ent.refl _ | with_reducible refine Ent.take_eq ?_ ?_ | rfl | with_reducible refine Ent.oR ?_ | with_reducible refine Ent.trans (oR.drop _ _ _) ?_ | with_reducible refine Ent.trans (Ent.drop _ _) ?_)
  · refine sq_ret2 Tryd.results27 ?_
    refine ⟨_, .inl ⟨l, o, ?_, ho, rfl, rfl⟩, Ent.refl _⟩
    rw [← hx, List.drop_eq_nil_of_le (by omega), ws_end]; simp
end Go.Gsl

namespace Go.Gsl
set_option linter.unusedVariables false
open Go.Proofs

theorem qKind_ok (s : Bs) : Spec Tryd.prog 53 [.string (sB s)] [] [] fun F v Rs' => v = .int .i64 (kindN s) ∧ Rs' = F := by
  refine spec_of Tryd.func53 rfl Tryd.ntmps53 rfl ?_
  intro w0 F
  repeat' (first | with_reducible (first | refine go1 ?_ | refine sct ?_ | refine scf ?_ | refine sgr ?_) | (with_reducible refine sc_cond (fun h => ?_) (fun h => ?_)) <;> (try (exfalso; first | contradiction | omega | exact h Iff.rfl)) | fail)
  all_goals (refine sq_ret1 Tryd.results53 ?_)
  all_goals refine ⟨_, ⟨?_, rfl⟩, Ent.refl _⟩
  all_goals (first | (subst h; rfl) | (unfold kindN wBegin wGet wPut wDelete wScan wCommit wAbort wEpoch wPrune wShrink wSave wForget; simp only [*, if_false]))
theorem qDoes_ok (s : Bs) : Spec Tryd.prog 54 [.string (sB s)] [] [] fun F v Rs' => v = .int .i64 (doesN s) ∧ Rs' = F := by
  refine spec_of Tryd.func54 rfl Tryd.ntmps54 rfl ?_
  intro w0 F
  repeat' (first | with_reducible (first | refine go1 ?_ | refine sct ?_ | refine scf ?_ | refine sgr ?_) | (with_reducible refine sc_cond (fun h => ?_) (fun h => ?_)) <;> (try (exfalso; first | contradiction | omega | exact h Iff.rfl)) | fail)
  all_goals (refine sq_ret1 Tryd.results54 ?_)
  all_goals refine ⟨_, ⟨?_, rfl⟩, Ent.refl _⟩
  all_goals (first | (subst h; rfl) | (unfold doesN wStep wPick wRun wAll wCrash wFuse wRestart; simp only [*, if_false]))
/-- what 'shape' answers -/
def shapeV (s : Bs) : Value := match shapeOf s with
  | some cs => .tuple #[.string (sB cs), .bool true]
  | none => .tuple #[.string (sB []), .bool false]
theorem shapeV_of {s cs : Bs} (h : formOf s = some cs) : shapeV s = .tuple #[.string (sB (cs.map shp)), .bool true] := by unfold shapeV shapeOf; rw [h]; rfl
theorem shapeV_none {s : Bs} (h : formOf s = none) : shapeV s = .tuple #[.string (sB []), .bool false] := by unfold shapeV shapeOf; rw [h]; rfl
set_option maxHeartbeats 2000000 in
theorem qShape_ok (s : Bs) : Spec Tryd.prog 28 [.string (sB s)] [] [] fun F v Rs' => v = shapeV s ∧ Rs' = F := by
  refine spec_of Tryd.func28 rfl Tryd.ntmps28 rfl ?_
  intro w0 F
  repeat' (first | with_reducible (first | refine go1 ?_ | refine sct ?_ | refine scf ?_ | refine sgr ?_) | (with_reducible refine sc_cond (fun h => ?_) (fun h => ?_)) <;> (try (exfalso; first | contradiction | omega | exact h Iff.rfl)) | fail)
  all_goals (refine sq_ret2 Tryd.results28 ?_)
  all_goals refine ⟨_, ⟨?_, rfl⟩, Ent.refl _⟩
  all_goals (first | (subst h; rfl) | (refine (shapeV_none ?_).symm; unfold formOf wStore wBegin wGet wDelete wPut wScan wCommit wAbort wStep wPick wRun wEpoch wSave wForget wAll wRestart wRest wPrune wShrink wCrash wFuse; simp only [*, if_false]))

/-- what 'Number' answers -/
def numV (s : Bs) : Value := .tuple #[.int .i64 ((numOf s).getD 0), .bool (numOf s).isSome]
set_option maxHeartbeats 2000000 in
theorem qKeeps_ok (s : Bs) (hs : s.length ≤ 1073741824) : Spec Tryd.prog 52 [.string (sB s)] [] [] fun F v Rs' =>
    (∃ l o, keepsQ s = some l ∧ NOk 1 (boolC l) l.length o ∧ v = .tuple #[nV l.length o, .bool true] ∧ Rs' = oR (nG 4 (boolC l)) F o) ∨
    (keepsQ s = none ∧ v = .tuple #[.slice none 0 0, .bool false] ∧ Rs' = F) := by
  refine spec_of Tryd.func52 rfl Tryd.ntmps52 rfl ?_
  intro w0 F
  repeat' (first | with_reducible (first | refine go1 ?_ | refine sct ?_ | refine scf ?_ | refine sgr ?_) | (with_reducible refine sc_cond (fun h => ?_) (fun h => ?_)) <;> (try (exfalso; first | contradiction | omega | exact h Iff.rfl)) | fail)
  · refine sq_ret2 Tryd.results52 ?_
    refine ⟨_, .inl ⟨[], none, ?_, ⟨rfl, fun _ => ⟨rfl, rfl⟩, fun b c t h => by cases h⟩, rfl, rfl⟩, Ent.refl _⟩
    subst h; rfl
  have hk : keepsQ s = if s = [] then none else if s.all kOk then some (s.map kB) else none := by unfold keepsQ keepsS; rw [if_neg h]; rfl
  refine sc_loop (α := { x : Nat × Option (Nat × Nat × List Value) // x.1 ≤ s.length ∧ NOk 1 (boolC ((s.take x.1).map kB)) x.1 x.2 ∧ (s.take x.1).all kOk = true ∧ (x.1 = 0 → x.2 = none) })
    (fun x => [(0, .string (sB s)), (5, .int .i64 (x.1.1 : Int)), (4, nV x.1.1 x.1.2)])
    (fun x => oR (nG 4 (boolC ((s.take x.1.1).map kB))) F x.1.2) (fun x => s.length - x.1.1) ⟨(0, none), Nat.zero_le _, ?_, rfl, fun _ => rfl⟩ ?_ ?_ ?_
  · exact ⟨rfl, fun _ => ⟨rfl, rfl⟩, fun b c t h => by cases h⟩
  · repeat' (first | exact says_nil | refine says_cons rfl ?_ | refine says_cons (by simp) ?_)
  · exact Ent.refl _
  rintro ⟨⟨j, o⟩, hj, ho, ha, h00⟩ e
  simp only at hj ho ha h00
  simp only [List.cons_append, List.nil_append]
  by_cases hj2 : j < s.length
  · have ht : s.take (j + 1) = s.take j ++ [s.getD j 0] := by
      rw [List.take_add_one, List.getElem?_eq_getElem hj2, List.getD_eq_getElem?_getD, List.getElem?_eq_getElem hj2]; rfl
    have hz : s.getD j 0 ∈ s := by rw [List.getD_eq_getElem?_getD, List.getElem?_eq_getElem hj2]; exact List.getElem_mem hj2
    have hcs : s[((j : Int)).toNat]? = some (s.getD j 0) := by rw [Int.toNat_natCast, List.getD_eq_getElem?_getD, List.getElem?_eq_getElem hj2]; rfl
    generalize s.getD j 0 = z at *
    repeat' (first | with_reducible refine sw_in (by omega) ?_ | with_reducible (first | refine go1 ?_ | refine sct ?_ | refine scf ?_ | refine sgr ?_) | with_reducible refine sw_op (h := runop_sidx (by omega) hcs) ?_ | with_reducible refine sw_build1 fun b7 => ?_ | with_reducible refine sw_guard_skip_u ?_ | (with_reducible refine sc_cond (fun h => ?_) (fun h => ?_)) <;> (try (exfalso; first | contradiction | omega | exact h Iff.rfl)) | (with_reducible refine sw_guard_split (fun h => ?_) (fun h => ?_)) <;> (try (exfalso; first | contradiction | omega | exact h Iff.rfl)) | (with_reducible refine sw_pick (fun h => ?_) (fun h => ?_)) <;> (try (exfalso; first | contradiction | omega | exact h Iff.rfl)) | fail)
    all_goals (try simp only [ne_eq, Classical.not_not] at *)
    · refine sq_ret2 Tryd.results52 ?_
      refine ⟨_, .inr ⟨?_, rfl, rfl⟩, ?_⟩
      · rw [hk, if_neg (by intro g; rw [g] at hj2; simp at hj2), if_neg]
        intro hal
        have := List.all_eq_true.1 hal z hz
        simp only [kOk, Bool.or_eq_true, decide_eq_true_eq] at this
        omega
      · repeat' (first | with_reducible exact Ent.refl _ | with_reducible refine Ent.take_eq ?_ ?_ | rfl | with_reducible refine Ent.oR ?_ | with_reducible refine Ent.trans (oR.drop _ _ _) ?_ | with_reducible refine Ent.trans (Ent.drop _ _) ?_)
    · have hkz : kOk z = true := by simp only [kOk, Bool.or_eq_true, decide_eq_true_eq]; omega
      refine sw_appendNV (sz := 1) (b7 := b7) (boolC ((s.take j).map kB)) [.bool (decide (iv z = 49))] j o ho (boolC_one _) rfl (by omega) ⟨rfl, by omega, by omega⟩ fun o' ho' hN => ?_
      have hC : boolC ((s.take j).map kB) ++ [.bool (decide (iv z = 49))] = boolC ((s.take (j + 1)).map kB) := by
        rw [ht]; simp [boolC, kB]
      rw [hC] at hN ⊢
      repeat' (first | with_reducible refine sw_in (by omega) ?_ | with_reducible (first | refine go1 ?_ | refine sct ?_ | refine scf ?_ | refine sgr ?_) | fail)
      refine sq_round ⟨(j + 1, o'), by omega, hN, by rw [ht, List.all_append, ha]; simp [hkz], fun h => by simp only at h; omega⟩ (by show s.length - (j + 1) < s.length - j; omega) ?_ ?_
      · show says _ [(0, .string (sB s)), (5, .int .i64 ((j + 1 : Nat) : Int)), (4, nV (j + 1) o')]
        repeat' (first | exact says_nil | refine says_cons rfl ?_ | refine says_cons (by simp) ?_)
      · show Ent _ (oR (nG 4 (boolC ((s.take (j + 1)).map kB))) F o')
        repeat' (first | with_reducible exact Ent.refl _ | with_reducible refine Ent.take_eq ?_ ?_ | rfl | with_reducible refine Ent.oR ?_ | with_reducible refine Ent.trans (oR.drop _ _ _) ?_ | with_reducible refine Ent.trans (Ent.drop _ _) ?_)
    · have hkz : kOk z = true := by simp only [kOk, Bool.or_eq_true, decide_eq_true_eq]; omega
      refine sw_appendNV (sz := 1) (b7 := b7) (boolC ((s.take j).map kB)) [.bool (decide (iv z = 49))] j o ho (boolC_one _) rfl (by omega) ⟨rfl, by omega, by omega⟩ fun o' ho' hN => ?_
      have hC : boolC ((s.take j).map kB) ++ [.bool (decide (iv z = 49))] = boolC ((s.take (j + 1)).map kB) := by
        rw [ht]; simp [boolC, kB]
      rw [hC] at hN ⊢
      repeat' (first | with_reducible refine sw_in (by omega) ?_ | with_reducible (first | refine go1 ?_ | refine sct ?_ | refine scf ?_ | refine sgr ?_) | fail)
      refine sq_round ⟨(j + 1, o'), by omega, hN, by rw [ht, List.all_append, ha]; simp [hkz], fun h => by simp only at h; omega⟩ (by show s.length - (j + 1) < s.length - j; omega) ?_ ?_
      · show says _ [(0, .string (sB s)), (5, .int .i64 ((j + 1 : Nat) : Int)), (4, nV (j + 1) o')]
        repeat' (first | exact says_nil | refine says_cons rfl ?_ | refine says_cons (by simp) ?_)
      · show Ent _ (oR (nG 4 (boolC ((s.take (j + 1)).map kB))) F o')
        repeat' (first | with_reducible exact Ent.refl _ | with_reducible refine Ent.take_eq ?_ ?_ | rfl | with_reducible refine Ent.oR ?_ | with_reducible refine Ent.trans (oR.drop _ _ _) ?_ | with_reducible refine Ent.trans (Ent.drop _ _) ?_)
  · have hjs : j = s.length := by omega
    subst hjs
    have hln : o = none → s.length = 0 := fun h => (ho.2.1 h).2
    repeat' (first | with_reducible refine sw_in (by omega) ?_ | with_reducible (first | refine go1 ?_ | refine sct ?_ | refine scf ?_ | refine sgr ?_) | with_reducible refine sw_op (h := runop_lenNV o hln) ?_ | with_reducible refine sw_guard_skip_u ?_ | (with_reducible refine sc_cond (fun h => ?_) (fun h => ?_)) <;> (try (exfalso; first | contradiction | omega | exact h Iff.rfl)) | (with_reducible refine sw_guard_split (fun h => ?_) (fun h => ?_)) <;> (try (exfalso; first | contradiction | omega | exact h Iff.rfl)) | (with_reducible refine sw_pick (fun h => ?_) (fun h => ?_)) <;> (try (exfalso; first | contradiction | omega | exact h Iff.rfl)) | fail)
    rw [List.take_length] at ho ha ⊢
    refine sq_ret2 Tryd.results52 ?_
    by_cases hs0 : s = []
    · refine ⟨_, .inr ⟨by rw [hk, if_pos hs0], ?_, rfl⟩, ?_⟩
      · subst hs0
        rw [h00 rfl]; rfl
      · repeat' (first | with_reducible exact Ent.refl _ | with_reducible refine Ent.take_eq ?_ ?_ | rfl | with_reducible refine Ent.oR ?_ | with_reducible refine Ent.trans (oR.drop _ _ _) ?_ | with_reducible refine Ent.trans (Ent.drop _ _) ?_)
    · refine ⟨_, .inl ⟨s.map kB, o, by rw [hk, if_neg hs0, if_pos ha], by rw [List.length_map]; exact ho, ?_, rfl⟩, ?_⟩
      · have : 0 < s.length := List.length_pos_iff.2 hs0
        rw [List.length_map, decide_eq_true (by omega)]
      · repeat' (first | with_reducible exact Ent.refl _ | with_reducible refine Ent.take_eq ?_ ?_ | rfl | with_reducible refine Ent.oR ?_ | with_reducible refine Ent.trans (oR.drop _ _ _) ?_ | with_reducible refine Ent.trans (Ent.drop _ _) ?_)
end Go.Gsl

namespace Go.Gsl
set_option linter.unusedVariables false
open Go.Proofs

theorem digR_part {s : Bs} {j m : Nat} (h : digR 0 (s.take j) = some m) (hj : j < s.length) : digR 0 (s.take (j + 1)) = if 48 ≤ iv (s.getD j 0) ∧ iv (s.getD j 0) ≤ 57 then some (10 * m + ((s.getD j 0).toNat - 48)) else none := by
  have ht : s.take (j + 1) = s.take j ++ [s.getD j 0] := by
    rw [List.take_add_one, List.getElem?_eq_getElem hj, List.getD_eq_getElem?_getD, List.getElem?_eq_getElem hj]; rfl
  rw [ht, digR_app, h]; rfl
theorem digR_none {s : Bs} {j m : Nat} (h : digR 0 (s.take j) = some m) (hj : j < s.length) (hc : ¬ (48 ≤ iv (s.getD j 0) ∧ iv (s.getD j 0) ≤ 57)) : digR 0 s = none := by
  conv => lhs; rw [← List.take_append_drop (j + 1) s]
  rw [digR_app, digR_part h hj, if_neg hc]; rfl

theorem sub64 (a : Int) (h : 0 ≤ a ∧ a ≤ 9223372036854775808) : IntKind.i64.wrap (IntKind.u64.wrap (0 - a)) = -a := by
  unfold IntKind.wrap
  simp [IntKind.min, IntKind.bits, IntKind.signed]
  omega

section
variable {P : Program} {Q : Cont} {n : Nat} {w0 : World} {c : Code} {e : Env} {Rs : List Res}
theorem sc_set (k : Nat) (v' : Value) {v : Value} [hl : Lk e k v] (h : v = v') (q : SC P Q n w0 c ((k, v') :: e) Rs) : SC P Q n w0 c e Rs := by
  intro w hw
  rw [actM_says (e := e) (l := [(k, v')]) ⟨hl.out.trans h, trivial⟩]
  exact q w hw
end
theorem hd_get {m : Bs} (h : ¬ m = []) : m.head? = some (m.getD 0 0) := by
  cases m with
  | nil => exact absurd rfl h
  | cons a l => rfl
set_option maxHeartbeats 4000000 in
theorem qNumber_ok (s : Bs) (hs : s.length ≤ 1073741824) : Spec Tryd.prog 51 [.string (sB s)] [] [] fun F v Rs' => v = numV s ∧ Rs' = F := by
  have hR : numV s = .tuple #[.int .i64 ((numR s).getD 0), .bool (numR s).isSome] := by unfold numV; rw [numR_eq]
  have rest : ∀ (m : Bs) (ng : Bool), magOf s = m → isNeg s = ng → m.length ≤ s.length ∧
      ((m = [] ∨ 19 < m.length ∨ (m.head? = some 48 ∧ (1 < m.length ∨ ng = true))) → numV s = .tuple #[.int .i64 0, .bool false]) ∧
      (¬ (m = [] ∨ 19 < m.length ∨ (m.head? = some 48 ∧ (1 < m.length ∨ ng = true))) → numV s = match digR 0 m with
        | none => .tuple #[.int .i64 0, .bool false]
        | some n => if (if ng = true then 9223372036854775808 else 9223372036854775807) < n then .tuple #[.int .i64 0, .bool false] else .tuple #[.int .i64 (if ng = true then -(n : Int) else n), .bool true]) := by
    intro m ng h1 h2
    subst h1 h2
    refine ⟨by unfold magOf; split <;> simp, fun h => ?_, fun h => ?_⟩
    · rw [hR]; unfold numR; rw [if_pos h]; rfl
    · rw [hR]; unfold numR; rw [if_neg h]
      cases digR 0 (magOf s) with
      | none => rfl
      | some n =>
        simp only
        have e1 : ∀ (c : Prop) [Decidable c] (v : Int), (Value.tuple #[.int .i64 ((if c then none else some v).getD 0), .bool (if c then none else some v).isSome]) = if c then .tuple #[.int .i64 0, .bool false] else .tuple #[.int .i64 v, .bool true] := by
          intro c _ v; split <;> rfl
        exact e1 _ _
  refine spec_of Tryd.func51 rfl Tryd.ntmps51 rfl ?_
  intro w0 F
  repeat' (first | with_reducible (first | refine go1 ?_ | refine sct ?_ | refine scf ?_ | refine sgr ?_) | fail)
  with_reducible refine sw_guard_split (fun h1 => ?_) (fun h1 => ?_)
  · repeat' (first | with_reducible (first | refine go1 ?_ | refine sct ?_ | refine scf ?_ | refine sgr ?_) | with_reducible refine sw_op (h := runop_sget (by omega)) ?_ | fail)
    have hsd : s = s.getD 0 0 :: s.drop 1 := by have := drop_getD (s := s) (i := 0) (by omega); rwa [List.drop_zero] at this
    have hhd : s.head? = some (s.getD 0 0) := hd_get (by rintro rfl; simp at h1)
    have h00 : Int.toNat 0 = 0 := rfl
    with_reducible refine sc_cond (fun h2 => ?_) (fun h2 => ?_)
    · have hn : isNeg s = true := by
        unfold isNeg; rw [hhd, decide_eq_true (show 1 < s.length by omega), show s.getD 0 0 = 45 from iv_inj h2]; rfl
      have rest := rest (s.drop (Int.toNat 1)) true (by unfold magOf; rw [hn]; rfl) hn
      refine sc_set 4 (.bool true) (by rw [decide_eq_true h2]) ?_
      repeat' (first | with_reducible (first | refine go1 ?_ | refine sct ?_ | refine scf ?_ | refine sgr ?_) | with_reducible refine sw_op (h := runop_sfrom (by omega)) ?_ | fail)
      generalize s.drop (Int.toNat 1) = m at rest ⊢
      obtain ⟨hml, hbad, hgood⟩ := rest
      repeat' (first | with_reducible (first | refine go1 ?_ | refine sct ?_ | refine scf ?_ | refine sgr ?_) | with_reducible refine sw_op (h := runop_sget (idx0 (by assumption))) ?_ | with_reducible refine sw_guard_skip_u ?_ | (with_reducible refine sc_cond (fun h => ?_) (fun h => ?_)) <;> (try (exfalso; first | contradiction | omega | exact h Iff.rfl)) | (with_reducible refine sw_guard_split (fun h => ?_) (fun h => ?_)) <;> (try (exfalso; first | contradiction | omega | exact h Iff.rfl)) | (with_reducible refine sw_pick (fun h => ?_) (fun h => ?_)) <;> (try (exfalso; first | contradiction | omega | exact h Iff.rfl)) | fail)
      all_goals (try simp only [Int.toNat_zero] at *)
      all_goals (first | ((refine sq_ret2 Tryd.results51 ?_); refine ⟨_, ⟨(hbad ?_).symm, rfl⟩, Ent.refl _⟩; first | exact .inl (by assumption) | exact .inr (.inl (by omega)) | exact .inr (.inr ⟨by rw [hd_get (by assumption), show m.getD 0 0 = 48 from iv_inj (by assumption)], by first | exact .inl (by omega) | exact .inr rfl | exact .inr trivial⟩)) | skip)
      all_goals have hg := hgood (by
        rintro (g | g | ⟨g, g2⟩)
        · exact absurd g (by assumption)
        · omega
        · first
          | exact absurd (show iv (m.getD 0 0) = 48 by rw [hd_get (by assumption)] at g; rw [Option.some.inj g]; rfl) (by assumption)
          | (rcases g2 with g2 | g2
             · omega
             · cases g2))
      all_goals have hl19 : m.length ≤ 19 := by omega
      all_goals refine sc_loop (α := { x : Nat × Nat // x.1 ≤ m.length ∧ digR 0 (m.take x.1) = some x.2 }) (fun x => [(0, .string (sB m)), (4, .bool true), (5, .int .u64 (x.1.2 : Int)), (6, .int .i64 (x.1.1 : Int))]) (fun _ => F) (fun x => m.length - x.1.1) ⟨(0, 0), Nat.zero_le _, rfl⟩ ?_ ?_ ?_
      all_goals (first | ((repeat' (first | exact says_nil | refine says_cons rfl ?_ | refine says_cons (by simp) ?_)); done) | exact Ent.refl _ | skip)
      all_goals (
        rintro ⟨⟨j, acc⟩, hj, hd⟩ e
        simp only at hj hd
        simp only [List.cons_append, List.nil_append]
        have hlt := digR_lt _ _ _ hd
        rw [List.length_take, Nat.min_eq_left hj] at hlt
        by_cases hjl : j < m.length
        · have hb : acc < 1000000000000000000 := by
            have : (10 : Nat) ^ j ≤ 10 ^ 18 := Nat.pow_le_pow_right (by omega) (by omega)
            have e18 : (10 : Nat) ^ 18 = 1000000000000000000 := rfl
            omega
          have hdp := digR_part hd hjl
          have hdn := digR_none hd hjl
          obtain ⟨c, hc⟩ : ∃ c, m.getD j 0 = c := ⟨_, rfl⟩
          have hcs : m[((j : Int)).toNat]? = some c := by rw [Int.toNat_natCast, ← hc, List.getD_eq_getElem?_getD, List.getElem?_eq_getElem hjl]; rfl
          rw [hc] at hdp hdn
          have hiv : iv c = (c.toNat : Int) := rfl
          have hci := iv_lt c
          have hcn := c.toNat_lt
          repeat' (first | with_reducible refine sw_in (by omega) ?_ | with_reducible (first | refine go1 ?_ | refine sct ?_ | refine scf ?_ | refine sgr ?_) | with_reducible refine sw_op (h := runop_sidx (by omega) hcs) ?_ | with_reducible refine sw_guard_skip_u ?_ | (with_reducible refine sc_cond (fun h => ?_) (fun h => ?_)) <;> (try (exfalso; first | contradiction | omega | exact h Iff.rfl)) | (with_reducible refine sw_guard_split (fun h => ?_) (fun h => ?_)) <;> (try (exfalso; first | contradiction | omega | exact h Iff.rfl)) | (with_reducible refine sw_pick (fun h => ?_) (fun h => ?_)) <;> (try (exfalso; first | contradiction | omega | exact h Iff.rfl)) | fail)
          · refine sq_ret2 Tryd.results51 ?_
            exact ⟨_, ⟨by rw [hg, hdn (by omega)], rfl⟩, Ent.refl _⟩
          · refine sq_ret2 Tryd.results51 ?_
            exact ⟨_, ⟨by rw [hg, hdn (by omega)], rfl⟩, Ent.refl _⟩
          · rw [if_pos (by omega)] at hdp
            refine sq_round ⟨(j + 1, 10 * acc + (c.toNat - 48)), by simp only; omega, hdp⟩ (by show m.length - (j + 1) < m.length - j; omega) ?_ ?_
            · show says _ [(0, .string (sB m)), (4, .bool true), (5, .int .u64 ((10 * acc + (c.toNat - 48) : Nat) : Int)), (6, .int .i64 ((j + 1 : Nat) : Int))]
              rw [show ((10 * acc + (c.toNat - 48) : Nat) : Int) = 10 * (acc : Int) + (iv c - 48) by omega]
              repeat' (first | exact says_nil | refine says_cons rfl ?_ | refine says_cons (by simp) ?_)
            · exact Ent.refl _
        · have hje : j = m.length := by omega
          subst hje
          have hpos : true = true → 1 ≤ acc := fun hq => by
            first
            | (cases hq; done)
            | (rw [List.take_length] at hd
               have hmd : m = m.getD 0 0 :: m.drop 1 := by
                 have := drop_getD (s := m) (i := 0) (by have := idx0 (show ¬ m = [] by assumption); omega)
                 rwa [List.drop_zero] at this
               rw [hmd] at hd
               exact digR_pos _ _ _ hd (fun g => (show ¬ iv (m.getD 0 0) = 48 by assumption) (by rw [g]; rfl)))
          repeat' (first | with_reducible refine sw_in (by omega) ?_ | with_reducible (first | refine go1 ?_ | refine sct ?_ | refine scf ?_ | refine sgr ?_) | (with_reducible refine sc_cond (fun h => ?_) (fun h => ?_)) <;> (try (exfalso; first | contradiction | omega | exact h Iff.rfl)) | fail)
          all_goals (refine sq_ret2 Tryd.results51 ?_)
          all_goals rw [List.take_length] at hd
          all_goals rw [hd] at hg
          all_goals simp only [if_true, Bool.false_eq_true, if_false] at hg
          all_goals refine ⟨_, ⟨?_, rfl⟩, Ent.refl _⟩
          all_goals (first | (rw [hg, if_pos (by omega)]; done) | (rw [hg, if_neg (by omega)]; first | done | (congr 1; rw [sub64 _ (by omega)])))
        )
    · have hn : isNeg s = false := by
        unfold isNeg; rw [hhd]
        have : s.getD 0 0 ≠ 45 := fun g => h2 (by rw [h00, g]; rfl)
        simp only [Option.some.injEq, decide_eq_false this, Bool.and_false]
      have rest := rest s false (by unfold magOf; rw [hn]; rfl) hn
      refine sc_set 4 (.bool false) (by rw [decide_eq_false h2]) ?_
      repeat' (first | with_reducible (first | refine go1 ?_ | refine sct ?_ | refine scf ?_ | refine sgr ?_) | fail)
      obtain ⟨hml, hbad, hgood⟩ := rest
      obtain ⟨m, hm⟩ : ∃ m, s = m := ⟨_, rfl⟩
      rw [hm] at hbad hgood hml ⊢
      rw [← hm] at hml
      repeat' (first | with_reducible (first | refine go1 ?_ | refine sct ?_ | refine scf ?_ | refine sgr ?_) | with_reducible refine sw_op (h := runop_sget (idx0 (by assumption))) ?_ | with_reducible refine sw_guard_skip_u ?_ | (with_reducible refine sc_cond (fun h => ?_) (fun h => ?_)) <;> (try (exfalso; first | contradiction | omega | exact h Iff.rfl)) | (with_reducible refine sw_guard_split (fun h => ?_) (fun h => ?_)) <;> (try (exfalso; first | contradiction | omega | exact h Iff.rfl)) | (with_reducible refine sw_pick (fun h => ?_) (fun h => ?_)) <;> (try (exfalso; first | contradiction | omega | exact h Iff.rfl)) | fail)
      all_goals (try simp only [Int.toNat_zero] at *)
      all_goals (first | ((refine sq_ret2 Tryd.results51 ?_); refine ⟨_, ⟨(hbad ?_).symm, rfl⟩, Ent.refl _⟩; first | exact .inl (by assumption) | exact .inr (.inl (by omega)) | exact .inr (.inr ⟨by rw [hd_get (by assumption), show m.getD 0 0 = 48 from iv_inj (by assumption)], by first | exact .inl (by omega) | exact .inr rfl | exact .inr trivial⟩)) | skip)
      all_goals have hg := hgood (by
        rintro (g | g | ⟨g, g2⟩)
        · exact absurd g (by assumption)
        · omega
        · first
          | exact absurd (show iv (m.getD 0 0) = 48 by rw [hd_get (by assumption)] at g; rw [Option.some.inj g]; rfl) (by assumption)
          | (rcases g2 with g2 | g2
             · omega
             · cases g2))
      all_goals have hl19 : m.length ≤ 19 := by omega
      all_goals refine sc_loop (α := { x : Nat × Nat // x.1 ≤ m.length ∧ digR 0 (m.take x.1) = some x.2 }) (fun x => [(0, .string (sB m)), (4, .bool false), (5, .int .u64 (x.1.2 : Int)), (6, .int .i64 (x.1.1 : Int))]) (fun _ => F) (fun x => m.length - x.1.1) ⟨(0, 0), Nat.zero_le _, rfl⟩ ?_ ?_ ?_
      all_goals (first | ((repeat' (first | exact says_nil | refine says_cons rfl ?_ | refine says_cons (by simp) ?_)); done) | exact Ent.refl _ | skip)
      all_goals (
        rintro ⟨⟨j, acc⟩, hj, hd⟩ e
        simp only at hj hd
        simp only [List.cons_append, List.nil_append]
        have hlt := digR_lt _ _ _ hd
        rw [List.length_take, Nat.min_eq_left hj] at hlt
        by_cases hjl : j < m.length
        · have hb : acc < 1000000000000000000 := by
            have : (10 : Nat) ^ j ≤ 10 ^ 18 := Nat.pow_le_pow_right (by omega) (by omega)
            have e18 : (10 : Nat) ^ 18 = 1000000000000000000 := rfl
            omega
          have hdp := digR_part hd hjl
          have hdn := digR_none hd hjl
          obtain ⟨c, hc⟩ : ∃ c, m.getD j 0 = c := ⟨_, rfl⟩
          have hcs : m[((j : Int)).toNat]? = some c := by rw [Int.toNat_natCast, ← hc, List.getD_eq_getElem?_getD, List.getElem?_eq_getElem hjl]; rfl
          rw [hc] at hdp hdn
          have hiv : iv c = (c.toNat : Int) := rfl
          have hci := iv_lt c
          have hcn := c.toNat_lt
          repeat' (first | with_reducible refine sw_in (by omega) ?_ | with_reducible (first | refine go1 ?_ | refine sct ?_ | refine scf ?_ | refine sgr ?_) | with_reducible refine sw_op (h := runop_sidx (by omega) hcs) ?_ | with_reducible refine sw_guard_skip_u ?_ | (with_reducible refine sc_cond (fun h => ?_) (fun h => ?_)) <;> (try (exfalso; first | contradiction | omega | exact h Iff.rfl)) | (with_reducible refine sw_guard_split (fun h => ?_) (fun h => ?_)) <;> (try (exfalso; first | contradiction | omega | exact h Iff.rfl)) | (with_reducible refine sw_pick (fun h => ?_) (fun h => ?_)) <;> (try (exfalso; first | contradiction | omega | exact h Iff.rfl)) | fail)
          · refine sq_ret2 Tryd.results51 ?_
            exact ⟨_, ⟨by rw [hg, hdn (by omega)], rfl⟩, Ent.refl _⟩
          · refine sq_ret2 Tryd.results51 ?_
            exact ⟨_, ⟨by rw [hg, hdn (by omega)], rfl⟩, Ent.refl _⟩
          · rw [if_pos (by omega)] at hdp
            refine sq_round ⟨(j + 1, 10 * acc + (c.toNat - 48)), by simp only; omega, hdp⟩ (by show m.length - (j + 1) < m.length - j; omega) ?_ ?_
            · show says _ [(0, .string (sB m)), (4, .bool false), (5, .int .u64 ((10 * acc + (c.toNat - 48) : Nat) : Int)), (6, .int .i64 ((j + 1 : Nat) : Int))]
              rw [show ((10 * acc + (c.toNat - 48) : Nat) : Int) = 10 * (acc : Int) + (iv c - 48) by omega]
              repeat' (first | exact says_nil | refine says_cons rfl ?_ | refine says_cons (by simp) ?_)
            · exact Ent.refl _
        · have hje : j = m.length := by omega
          subst hje
          have hpos : false = true → 1 ≤ acc := fun hq => by
            first
            | (cases hq; done)
            | (rw [List.take_length] at hd
               have hmd : m = m.getD 0 0 :: m.drop 1 := by
                 have := drop_getD (s := m) (i := 0) (by have := idx0 (show ¬ m = [] by assumption); omega)
                 rwa [List.drop_zero] at this
               rw [hmd] at hd
               exact digR_pos _ _ _ hd (fun g => (show ¬ iv (m.getD 0 0) = 48 by assumption) (by rw [g]; rfl)))
          repeat' (first | with_reducible refine sw_in (by omega) ?_ | with_reducible (first | refine go1 ?_ | refine sct ?_ | refine scf ?_ | refine sgr ?_) | (with_reducible refine sc_cond (fun h => ?_) (fun h => ?_)) <;> (try (exfalso; first | contradiction | omega | exact h Iff.rfl)) | fail)
          all_goals (refine sq_ret2 Tryd.results51 ?_)
          all_goals rw [List.take_length] at hd
          all_goals rw [hd] at hg
          all_goals simp only [if_true, Bool.false_eq_true, if_false] at hg
          all_goals refine ⟨_, ⟨?_, rfl⟩, Ent.refl _⟩
          all_goals (first | (rw [hg, if_pos (by omega)]; done) | (rw [hg, if_neg (by omega)]; first | done | (congr 1; rw [sub64 _ (by omega)])))
        )
  · have hn : isNeg s = false := by unfold isNeg; rw [decide_eq_false (show ¬ 1 < s.length by omega)]; rfl
    have rest := rest s false (by unfold magOf; rw [hn]; rfl) hn
    repeat' (first | with_reducible (first | refine go1 ?_ | refine sct ?_ | refine scf ?_ | refine sgr ?_) | fail)
    obtain ⟨hml, hbad, hgood⟩ := rest
    obtain ⟨m, hm⟩ : ∃ m, s = m := ⟨_, rfl⟩
    rw [hm] at hbad hgood hml ⊢
    rw [← hm] at hml
    repeat' (first | with_reducible (first | refine go1 ?_ | refine sct ?_ | refine scf ?_ | refine sgr ?_) | with_reducible refine sw_op (h := runop_sget (idx0 (by assumption))) ?_ | with_reducible refine sw_guard_skip_u ?_ | (with_reducible refine sc_cond (fun h => ?_) (fun h => ?_)) <;> (try (exfalso; first | contradiction | omega | exact h Iff.rfl)) | (with_reducible refine sw_guard_split (fun h => ?_) (fun h => ?_)) <;> (try (exfalso; first | contradiction | omega | exact h Iff.rfl)) | (with_reducible refine sw_pick (fun h => ?_) (fun h => ?_)) <;> (try (exfalso; first | contradiction | omega | exact h Iff.rfl)) | fail)
    all_goals (try simp only [Int.toNat_zero] at *)
    all_goals (first | ((refine sq_ret2 Tryd.results51 ?_); refine ⟨_, ⟨(hbad ?_).symm, rfl⟩, Ent.refl _⟩; first | exact .inl (by assumption) | exact .inr (.inl (by omega)) | exact .inr (.inr ⟨by rw [hd_get (by assumption), show m.getD 0 0 = 48 from iv_inj (by assumption)], by first | exact .inl (by omega) | exact .inr rfl | exact .inr trivial⟩)) | skip)
    all_goals have hg := hgood (by
      rintro (g | g | ⟨g, g2⟩)
      · exact absurd g (by assumption)
      · omega
      · first
        | exact absurd (show iv (m.getD 0 0) = 48 by rw [hd_get (by assumption)] at g; rw [Option.some.inj g]; rfl) (by assumption)
        | (rcases g2 with g2 | g2
           · omega
           · cases g2))
    all_goals have hl19 : m.length ≤ 19 := by omega
    all_goals refine sc_loop (α := { x : Nat × Nat // x.1 ≤ m.length ∧ digR 0 (m.take x.1) = some x.2 }) (fun x => [(0, .string (sB m)), (4, .bool false), (5, .int .u64 (x.1.2 : Int)), (6, .int .i64 (x.1.1 : Int))]) (fun _ => F) (fun x => m.length - x.1.1) ⟨(0, 0), Nat.zero_le _, rfl⟩ ?_ ?_ ?_
    all_goals (first | ((repeat' (first | exact says_nil | refine says_cons rfl ?_ | refine says_cons (by simp) ?_)); done) | exact Ent.refl _ | skip)
    all_goals (
      rintro ⟨⟨j, acc⟩, hj, hd⟩ e
      simp only at hj hd
      simp only [List.cons_append, List.nil_append]
      have hlt := digR_lt _ _ _ hd
      rw [List.length_take, Nat.min_eq_left hj] at hlt
      by_cases hjl : j < m.length
      · have hb : acc < 1000000000000000000 := by
          have : (10 : Nat) ^ j ≤ 10 ^ 18 := Nat.pow_le_pow_right (by omega) (by omega)
          have e18 : (10 : Nat) ^ 18 = 1000000000000000000 := rfl
          omega
        have hdp := digR_part hd hjl
        have hdn := digR_none hd hjl
        obtain ⟨c, hc⟩ : ∃ c, m.getD j 0 = c := ⟨_, rfl⟩
        have hcs : m[((j : Int)).toNat]? = some c := by rw [Int.toNat_natCast, ← hc, List.getD_eq_getElem?_getD, List.getElem?_eq_getElem hjl]; rfl
        rw [hc] at hdp hdn
        have hiv : iv c = (c.toNat : Int) := rfl
        have hci := iv_lt c
        have hcn := c.toNat_lt
        repeat' (first | with_reducible refine sw_in (by omega) ?_ | with_reducible (first | refine go1 ?_ | refine sct ?_ | refine scf ?_ | refine sgr ?_) | with_reducible refine sw_op (h := runop_sidx (by omega) hcs) ?_ | with_reducible refine sw_guard_skip_u ?_ | (with_reducible refine sc_cond (fun h => ?_) (fun h => ?_)) <;> (try (exfalso; first | contradiction | omega | exact h Iff.rfl)) | (with_reducible refine sw_guard_split (fun h => ?_) (fun h => ?_)) <;> (try (exfalso; first | contradiction | omega | exact h Iff.rfl)) | (with_reducible refine sw_pick (fun h => ?_) (fun h => ?_)) <;> (try (exfalso; first | contradiction | omega | exact h Iff.rfl)) | fail)
        · refine sq_ret2 Tryd.results51 ?_
          exact ⟨_, ⟨by rw [hg, hdn (by omega)], rfl⟩, Ent.refl _⟩
        · refine sq_ret2 Tryd.results51 ?_
          exact ⟨_, ⟨by rw [hg, hdn (by omega)], rfl⟩, Ent.refl _⟩
        · rw [if_pos (by omega)] at hdp
          refine sq_round ⟨(j + 1, 10 * acc + (c.toNat - 48)), by simp only; omega, hdp⟩ (by show m.length - (j + 1) < m.length - j; omega) ?_ ?_
          · show says _ [(0, .string (sB m)), (4, .bool false), (5, .int .u64 ((10 * acc + (c.toNat - 48) : Nat) : Int)), (6, .int .i64 ((j + 1 : Nat) : Int))]
            rw [show ((10 * acc + (c.toNat - 48) : Nat) : Int) = 10 * (acc : Int) + (iv c - 48) by omega]
            repeat' (first | exact says_nil | refine says_cons rfl ?_ | refine says_cons (by simp) ?_)
          · exact Ent.refl _
      · have hje : j = m.length := by omega
        subst hje
        have hpos : false = true → 1 ≤ acc := fun hq => by
          first
          | (cases hq; done)
          | (rw [List.take_length] at hd
             have hmd : m = m.getD 0 0 :: m.drop 1 := by
               have := drop_getD (s := m) (i := 0) (by have := idx0 (show ¬ m = [] by assumption); omega)
               rwa [List.drop_zero] at this
             rw [hmd] at hd
             exact digR_pos _ _ _ hd (fun g => (show ¬ iv (m.getD 0 0) = 48 by assumption) (by rw [g]; rfl)))
        repeat' (first | with_reducible refine sw_in (by omega) ?_ | with_reducible (first | refine go1 ?_ | refine sct ?_ | refine scf ?_ | refine sgr ?_) | (with_reducible refine sc_cond (fun h => ?_) (fun h => ?_)) <;> (try (exfalso; first | contradiction | omega | exact h Iff.rfl)) | fail)
        all_goals (refine sq_ret2 Tryd.results51 ?_)
        all_goals rw [List.take_length] at hd
        all_goals rw [hd] at hg
        all_goals simp only [if_true, Bool.false_eq_true, if_false] at hg
        all_goals refine ⟨_, ⟨?_, rfl⟩, Ent.refl _⟩
        all_goals (first | (rw [hg, if_pos (by omega)]; done) | (rw [hg, if_neg (by omega)]; first | done | (congr 1; rw [sub64 _ (by omega)])))
      )
end Go.Gsl

namespace Go.Gsl
set_option linter.unusedVariables false
open Go.Proofs

/-- the words behind a line's first one, in its row -/
structure Beh (w : Tok) (ws : List Tok) (o c : Nat) (t : List Value) : Prop where
  off : 0 < ws.length → o = 2
  s : ∀ i, i < ws.length → (tokC (w :: ws) ++ t)[o + i * 2 + 0]? = some (.string (sB (tk ws i).s))
  t : ∀ i, i < ws.length → (tokC (w :: ws) ++ t)[o + i * 2 + 1]? = some (.bool (tk ws i).t)
theorem Beh.of {w : Tok} {ws : List Tok} {o c : Nat} {t : List Value} (h : 0 < ws.length → o = 2) : Beh w ws o c t := by
  refine ⟨h, fun i hi => ?_, fun i hi => ?_⟩
  · have h1 := tokC_s (w :: ws) t (i + 1) (by simp only [List.length_cons]; omega)
    rw [h (by omega), show 2 + i * 2 + 0 = 0 + (i + 1) * 2 + 0 by omega]; exact h1
  · have h1 := tokC_t (w :: ws) t (i + 1) (by simp only [List.length_cons]; omega)
    rw [h (by omega), show 2 + i * 2 + 1 = 0 + (i + 1) * 2 + 1 by omega]; exact h1
theorem tk_mem {ws : List Tok} {i : Nat} (h : i < ws.length) : tk ws i ∈ ws := by unfold tk; rw [List.getD_eq_getElem?_getD, List.getElem?_eq_getElem h]; exact List.getElem_mem h
theorem tk_drop {ws : List Tok} {i : Nat} (h : i < ws.length) : ws.drop i = tk ws i :: ws.drop (i + 1) := by
  rw [List.drop_eq_getElem_cons h]; unfold tk; rw [List.getD_eq_getElem?_getD, List.getElem?_eq_getElem h]; rfl
theorem kindR_iff (c : UInt8) (w : Tok) : kindR c w = true ↔ (w.t = true ↔ iv c = 116) ∧ (iv c = 108 → w.s = wSnapshot ∨ w.s = wSerial) := by
  unfold kindR
  obtain ⟨s, t⟩ := w
  simp only
  cases t <;> by_cases h1 : iv c = 116 <;> by_cases h2 : iv c = 108 <;> by_cases h3 : s = wSnapshot <;> by_cases h4 : s = wSerial <;> simp [h1, h2, h3, h4]
theorem zip_step {α : Type} (f : UInt8 → Tok → Bool) {cs : Bs} {ws : List Tok} {i : Nat} (h : i < cs.length) (h2 : i < ws.length) : (List.zip (cs.drop i) (ws.drop i)).all (fun p => f p.1 p.2) = (f (cs.getD i 0) (tk ws i) && (List.zip (cs.drop (i + 1)) (ws.drop (i + 1))).all (fun p => f p.1 p.2)) := by
  rw [drop_getD h, tk_drop h2]; rfl

set_option maxHeartbeats 4000000 in
theorem qFits_ok (w : Tok) (ws : List Tok) (b o c : Nat) (t : List Value) (cs : Bs) (hB : Beh w ws o c t) (hl : ws.length ≤ 1073741824) : Spec Tryd.prog 29 [.slice (some ⟨b, o, none⟩) ws.length c, .string (sB cs)] [b] [pts b (.cells (tokC (w :: ws) ++ t).toArray 63 (0, 0))]
    fun F v Rs' => v = .bool (fitsR ws cs) ∧ Rs' = (b, pts b (.cells (tokC (w :: ws) ++ t).toArray 63 (0, 0))) :: F := by
  obtain ⟨_, hS, hT⟩ := hB
  generalize tokC (w :: ws) ++ t = row at *
  refine spec_of Tryd.func29 rfl Tryd.ntmps29 rfl ?_
  intro w0 F
  repeat' (first | with_reducible (first | refine go1 ?_ | refine sct ?_ | refine scf ?_ | refine sgr ?_) | (with_reducible refine sc_cond (fun h => ?_) (fun h => ?_)) <;> (try (exfalso; first | contradiction | omega | exact h Iff.rfl)) | fail)
  · refine sq_ret1 Tryd.results29 ?_
    refine ⟨_, ⟨?_, rfl⟩, Ent.refl _⟩
    unfold fitsR; rw [decide_eq_false (by omega), Bool.false_and]
  rename_i hlen
  have hleq : ws.length = cs.length := by omega
  have hfr : fitsR ws cs = (List.zip cs ws).all (fun p => kindR p.1 p.2) := by unfold fitsR; rw [decide_eq_true hleq, Bool.true_and]
  refine sc_loop (α := { i : Nat // i ≤ ws.length ∧ (List.zip (cs.drop i) (ws.drop i)).all (fun p => kindR p.1 p.2) = fitsR ws cs }) (fun i => [(0, .slice (some ⟨b, o, none⟩) ws.length c), (1, .string (sB cs)), (5, .int .i64 (i.1 : Int))])
    (fun _ => (b, pts b (.cells row.toArray 63 (0, 0))) :: F) (fun i => ws.length - i.1) ⟨0, Nat.zero_le _, hfr.symm⟩ ?_ ?_ ?_
  · repeat' (first | exact says_nil | refine says_cons rfl ?_ | refine says_cons (by simp) ?_)
  · exact Ent.refl _
  rintro ⟨i, hi, hz⟩ e
  simp only [List.cons_append, List.nil_append]
  by_cases hil : i < ws.length
  · have hsi := hS i hil
    have hti := hT i hil
    rw [zip_step (α := Unit) kindR (by omega) hil] at hz
    obtain ⟨ch, hch⟩ : ∃ ch, cs.getD i 0 = ch := ⟨_, rfl⟩
    obtain ⟨⟨zs, zt⟩, hzz⟩ : ∃ z, tk ws i = z := ⟨_, rfl⟩
    have hc : cs[((i : Int)).toNat]? = some ch := by rw [Int.toNat_natCast, ← hch, List.getD_eq_getElem?_getD, List.getElem?_eq_getElem (by omega)]; rfl
    rw [hzz] at hsi hti hz
    rw [hch] at hz
    have hkk := kindR_iff ch ⟨zs, zt⟩
    unfold wSnapshot wSerial at hkk
    simp only at hsi hti hkk
    repeat' (first | with_reducible refine sw_in (by omega) ?_ | with_reducible (first | refine go1 ?_ | refine sct ?_ | refine scf ?_ | refine sgr ?_) | (with_reducible refine sc_cond (fun h => ?_) (fun h => ?_)) <;> (try (exfalso; first | contradiction | omega | exact h Iff.rfl)) | fail)
    refine sc_lin ([(b, pts b (.cells row.toArray 63 (0, 0)))]) (llp 0 (llp 1 (llp 2 (llp 3 (llp 4 (llp 5 (llp 6 (llp 7 (llp 8 (llp 9 (llp 10 (llp 11 (llp 12 (llp 13 (llp 14 (llp 15 (llp 16 (llp 17 (llp 18 (llp 19 (llp 20 (llp 21 (llp 22 (llp 23 (llp 24 (llp 25 (llp 26 (llp 27 (llp 28 (llp 29 (llp 30 (llp 31 ll0)))))))))))))))))))))))))))))))) (by kernel_rfl) rfl (by kernel_rfl) ?_
    all_goals (iterate 2 refine go1l ?_)
    all_goals refine sl_take (h := runop_indexN i ⟨rfl, by omega⟩) ?_
    all_goals refine go1l ?_
    all_goals refine sl_take (h := runop_loadAt (.bool zt) hti) ?_
    all_goals (iterate 2 refine go1l ?_)
    all_goals refine sl_take (h := runop_sidx (by omega) hc) ?_
    all_goals (iterate 3 refine go1l ?_)
    all_goals (first | refine go1l ?_ | ((refine sl_split 27 (fun h => ?_) (fun h => ?_)) <;> (try (exfalso; first | contradiction | omega | exact h Iff.rfl)) <;> refine go1l ?_))
    all_goals (first | refine go1l ?_ | ((refine sl_split 27 (fun h => ?_) (fun h => ?_)) <;> (try (exfalso; first | contradiction | omega | exact h Iff.rfl)) <;> refine go1l ?_))
    all_goals (first | (first | refine sl_skip ?_ | refine sl_skip_u ?_ | refine sl_take_g (h := runop_sidx (by omega) hc) ?_) | ((refine sl_split 27 (fun h => ?_) (fun h => ?_)) <;> (try (exfalso; first | contradiction | omega | exact h Iff.rfl)) <;> (first | refine sl_skip ?_ | refine sl_skip_u ?_ | refine sl_take_g (h := runop_sidx (by omega) hc) ?_)))
    all_goals (first | refine go1l ?_ | ((refine sl_split 27 (fun h => ?_) (fun h => ?_)) <;> (try (exfalso; first | contradiction | omega | exact h Iff.rfl)) <;> refine go1l ?_))
    all_goals (first | refine go1l ?_ | ((refine sl_split 27 (fun h => ?_) (fun h => ?_)) <;> (try (exfalso; first | contradiction | omega | exact h Iff.rfl)) <;> refine go1l ?_))
    all_goals (first | refine go1l ?_ | ((refine sl_split 32 (fun h => ?_) (fun h => ?_)) <;> (try (exfalso; first | contradiction | omega | exact h Iff.rfl)) <;> refine go1l ?_))
    all_goals (first | refine go1l ?_ | ((refine sl_split 32 (fun h => ?_) (fun h => ?_)) <;> (try (exfalso; first | contradiction | omega | exact h Iff.rfl)) <;> refine go1l ?_))
    all_goals (first | (first | refine sl_skip ?_ | refine sl_skip_u ?_ | refine sl_take_g (h := runop_indexN i ⟨rfl, by omega⟩) ?_) | ((refine sl_split 32 (fun h => ?_) (fun h => ?_)) <;> (try (exfalso; first | contradiction | omega | exact h Iff.rfl)) <;> (first | refine sl_skip ?_ | refine sl_skip_u ?_ | refine sl_take_g (h := runop_indexN i ⟨rfl, by omega⟩) ?_)))
    all_goals (first | refine go1l ?_ | ((refine sl_split 32 (fun h => ?_) (fun h => ?_)) <;> (try (exfalso; first | contradiction | omega | exact h Iff.rfl)) <;> refine go1l ?_))
    all_goals (first | (first | refine sl_skip ?_ | refine sl_skip_u ?_ | refine sl_take_g (h := runop_loadAt (.string (sB zs)) hsi) ?_) | ((refine sl_split 32 (fun h => ?_) (fun h => ?_)) <;> (try (exfalso; first | contradiction | omega | exact h Iff.rfl)) <;> (first | refine sl_skip ?_ | refine sl_skip_u ?_ | refine sl_take_g (h := runop_loadAt (.string (sB zs)) hsi) ?_)))
    all_goals (first | refine go1l ?_ | ((refine sl_split 32 (fun h => ?_) (fun h => ?_)) <;> (try (exfalso; first | contradiction | omega | exact h Iff.rfl)) <;> refine go1l ?_))
    all_goals (first | refine go1l ?_ | ((refine sl_split 27 (fun h => ?_) (fun h => ?_)) <;> (try (exfalso; first | contradiction | omega | exact h Iff.rfl)) <;> refine go1l ?_))
    all_goals (first | refine go1l ?_ | ((refine sl_split 27 (fun h => ?_) (fun h => ?_)) <;> (try (exfalso; first | contradiction | omega | exact h Iff.rfl)) <;> refine go1l ?_))
    all_goals (first | refine go1l ?_ | ((refine sl_split 40 (fun h => ?_) (fun h => ?_)) <;> (try (exfalso; first | contradiction | omega | exact h Iff.rfl)) <;> refine go1l ?_))
    all_goals (first | refine go1l ?_ | ((refine sl_split 40 (fun h => ?_) (fun h => ?_)) <;> (try (exfalso; first | contradiction | omega | exact h Iff.rfl)) <;> refine go1l ?_))
    all_goals (first | (first | refine sl_skip ?_ | refine sl_skip_u ?_ | refine sl_take_g (h := runop_indexN i ⟨rfl, by omega⟩) ?_) | ((refine sl_split 40 (fun h => ?_) (fun h => ?_)) <;> (try (exfalso; first | contradiction | omega | exact h Iff.rfl)) <;> (first | refine sl_skip ?_ | refine sl_skip_u ?_ | refine sl_take_g (h := runop_indexN i ⟨rfl, by omega⟩) ?_)))
    all_goals (first | refine go1l ?_ | ((refine sl_split 40 (fun h => ?_) (fun h => ?_)) <;> (try (exfalso; first | contradiction | omega | exact h Iff.rfl)) <;> refine go1l ?_))
    all_goals (first | (first | refine sl_skip ?_ | refine sl_skip_u ?_ | refine sl_take_g (h := runop_loadAt (.string (sB zs)) hsi) ?_) | ((refine sl_split 40 (fun h => ?_) (fun h => ?_)) <;> (try (exfalso; first | contradiction | omega | exact h Iff.rfl)) <;> (first | refine sl_skip ?_ | refine sl_skip_u ?_ | refine sl_take_g (h := runop_loadAt (.string (sB zs)) hsi) ?_)))
    all_goals (first | refine go1l ?_ | ((refine sl_split 40 (fun h => ?_) (fun h => ?_)) <;> (try (exfalso; first | contradiction | omega | exact h Iff.rfl)) <;> refine go1l ?_))
    all_goals (first | refine go1l ?_ | ((refine sl_split 27 (fun h => ?_) (fun h => ?_)) <;> (try (exfalso; first | contradiction | omega | exact h Iff.rfl)) <;> refine go1l ?_))
    all_goals (first | refine go1l ?_ | ((refine sl_split 27 (fun h => ?_) (fun h => ?_)) <;> (try (exfalso; first | contradiction | omega | exact h Iff.rfl)) <;> refine go1l ?_))
    all_goals refine sl_done ?_
    all_goals (repeat' (first | with_reducible refine sw_in (by omega) ?_ | with_reducible (first | refine go1 ?_ | refine sct ?_ | refine scf ?_ | refine sgr ?_) | (with_reducible refine sc_cond (fun h => ?_) (fun h => ?_)) <;> (try (exfalso; first | contradiction | omega | exact h Iff.rfl)) | fail))
    · refine sq_ret1 Tryd.results29 ?_
      refine ⟨_, ⟨?_, rfl⟩, Ent.refl _⟩
      have : kindR ch ⟨zs, zt⟩ = false := Bool.eq_false_iff.2 fun hy => by rename_i h; exact h (hkk.1 hy).1
      rw [← hz, this, Bool.false_and]
    · refine sq_ret1 Tryd.results29 ?_
      refine ⟨_, ⟨?_, rfl⟩, Ent.refl _⟩
      have : kindR ch ⟨zs, zt⟩ = false := Bool.eq_false_iff.2 fun hy => by rcases (hkk.1 hy).2 (by assumption) with g | g <;> contradiction
      rw [← hz, this, Bool.false_and]
    · have : kindR ch ⟨zs, zt⟩ = true := hkk.2 ⟨Classical.not_not.1 (by assumption), fun _ => .inr (Classical.not_not.1 (by assumption))⟩
      rw [this, Bool.true_and] at hz
      refine sq_round ⟨i + 1, by omega, hz⟩ (by show ws.length - (i + 1) < ws.length - i; omega) ?_ ?_
      · repeat' (first | exact says_nil | refine says_cons rfl ?_ | refine says_cons (by simp) ?_)
      · repeat' (first | with_reducible exact Ent.refl _ | with_reducible refine Ent.take_eq ?_ ?_ | rfl | with_reducible refine Ent.oR ?_ | with_reducible refine Ent.trans (oR.drop _ _ _) ?_ | with_reducible refine Ent.trans (Ent.drop _ _) ?_)
    · have : kindR ch ⟨zs, zt⟩ = true := hkk.2 ⟨Classical.not_not.1 (by assumption), fun _ => .inl (Classical.not_not.1 (by assumption))⟩
      rw [this, Bool.true_and] at hz
      refine sq_round ⟨i + 1, by omega, hz⟩ (by show ws.length - (i + 1) < ws.length - i; omega) ?_ ?_
      · repeat' (first | exact says_nil | refine says_cons rfl ?_ | refine says_cons (by simp) ?_)
      · repeat' (first | with_reducible exact Ent.refl _ | with_reducible refine Ent.take_eq ?_ ?_ | rfl | with_reducible refine Ent.oR ?_ | with_reducible refine Ent.trans (oR.drop _ _ _) ?_ | with_reducible refine Ent.trans (Ent.drop _ _) ?_)
    · have : kindR ch ⟨zs, zt⟩ = true := hkk.2 ⟨Classical.not_not.1 (by assumption), fun h' => absurd h' (by assumption)⟩
      rw [this, Bool.true_and] at hz
      refine sq_round ⟨i + 1, by omega, hz⟩ (by show ws.length - (i + 1) < ws.length - i; omega) ?_ ?_
      · repeat' (first | exact says_nil | refine says_cons rfl ?_ | refine says_cons (by simp) ?_)
      · repeat' (first | with_reducible exact Ent.refl _ | with_reducible refine Ent.take_eq ?_ ?_ | rfl | with_reducible refine Ent.oR ?_ | with_reducible refine Ent.trans (oR.drop _ _ _) ?_ | with_reducible refine Ent.trans (Ent.drop _ _) ?_)
  · repeat' (first | with_reducible refine sw_in (by omega) ?_ | with_reducible (first | refine go1 ?_ | refine sct ?_ | refine scf ?_ | refine sgr ?_) | (with_reducible refine sc_cond (fun h => ?_) (fun h => ?_)) <;> (try (exfalso; first | contradiction | omega | exact h Iff.rfl)) | fail)
    refine sq_ret1 Tryd.results29 ?_
    refine ⟨_, ⟨?_, rfl⟩, Ent.refl _⟩
    have hw0 : ws.drop i = [] := List.drop_eq_nil_of_le (by omega)
    rw [← hz, hw0]; simp

set_option maxHeartbeats 4000000 in
theorem qNumbers_ok (w : Tok) (ws : List Tok) (b o c : Nat) (t : List Value) (cs : Bs) (hB : Beh w ws o c t) (hlc : ws.length = cs.length) (hl : ws.length ≤ 1073741824) (hsz : ∀ x ∈ ws, x.s.length ≤ 1073741824) :
    Spec Tryd.prog 30 [.slice (some ⟨b, o, none⟩) ws.length c, .string (sB cs)] [b] [pts b (.cells (tokC (w :: ws) ++ t).toArray 63 (0, 0))]
    fun F v Rs' => v = .bool (numsR ws cs) ∧ Rs' = (b, pts b (.cells (tokC (w :: ws) ++ t).toArray 63 (0, 0))) :: F := by
  obtain ⟨_, hS, hT⟩ := hB
  generalize tokC (w :: ws) ++ t = row at *
  refine spec_of Tryd.func30 rfl Tryd.ntmps30 rfl ?_
  intro w0 F
  repeat' (first | with_reducible (first | refine go1 ?_ | refine sct ?_ | refine scf ?_ | refine sgr ?_) | (with_reducible refine sc_cond (fun h => ?_) (fun h => ?_)) <;> (try (exfalso; first | contradiction | omega | exact h Iff.rfl)) | fail)
  refine sc_loop (α := { i : Nat // i ≤ ws.length ∧ (List.zip (cs.drop i) (ws.drop i)).all (fun p => numsR1 p.1 p.2) = numsR ws cs }) (fun i => [(0, .slice (some ⟨b, o, none⟩) ws.length c), (1, .string (sB cs)), (5, .int .i64 (i.1 : Int))])
    (fun _ => (b, pts b (.cells row.toArray 63 (0, 0))) :: F) (fun i => ws.length - i.1) ⟨0, Nat.zero_le _, rfl⟩ ?_ ?_ ?_
  · repeat' (first | exact says_nil | refine says_cons rfl ?_ | refine says_cons (by simp) ?_)
  · exact Ent.refl _
  rintro ⟨i, hi, hz⟩ e
  simp only [List.cons_append, List.nil_append]
  by_cases hil : i < ws.length
  · have hsi := hS i hil
    have hzl := hsz _ (tk_mem hil)
    rw [zip_step (α := Unit) numsR1 (by omega) hil] at hz
    obtain ⟨ch, hch⟩ : ∃ ch, cs.getD i 0 = ch := ⟨_, rfl⟩
    obtain ⟨⟨zs, zt⟩, hzz⟩ : ∃ z, tk ws i = z := ⟨_, rfl⟩
    have hc : cs[((i : Int)).toNat]? = some ch := by rw [Int.toNat_natCast, ← hch, List.getD_eq_getElem?_getD, List.getElem?_eq_getElem (by omega)]; rfl
    rw [hzz] at hsi hz hzl
    rw [hch] at hz
    simp only at hsi hzl
    have hnum := qNumber_ok zs hzl
    have hkp := qKeeps_ok zs hzl
    unfold numV at hnum
    unfold numsR1 at hz
    simp only at hz
    obtain ⟨nb, hnb⟩ : ∃ nb, (numOf zs).isSome = nb := ⟨_, rfl⟩
    rw [hnb] at hnum hz
    repeat' (first | with_reducible refine sw_in (by omega) ?_ | with_reducible (first | refine go1 ?_ | refine sct ?_ | refine scf ?_ | refine sgr ?_) | with_reducible refine sw_indexN i ⟨rfl, by omega⟩ ?_ | with_reducible refine sw_loadAt (.string (sB zs)) hsi ?_ | with_reducible refine sw_op (h := runop_sidx (by omega) hc) ?_ | ((with_reducible refine sw_callf hnum ?_); rintro _ _ ⟨rfl, rfl⟩) | with_reducible refine sw_guard_skip_u ?_ | (with_reducible refine sc_cond (fun h => ?_) (fun h => ?_)) <;> (try (exfalso; first | contradiction | omega | exact h Iff.rfl)) | (with_reducible refine sw_guard_split (fun h => ?_) (fun h => ?_)) <;> (try (exfalso; first | contradiction | omega | exact h Iff.rfl)) | (with_reducible refine sw_pick (fun h => ?_) (fun h => ?_)) <;> (try (exfalso; first | contradiction | omega | exact h Iff.rfl)) | fail)
    · refine sq_ret1 Tryd.results30 ?_
      refine ⟨_, ⟨?_, rfl⟩, Ent.refl _⟩
      rw [← hz, decide_eq_true (show iv ch = 110 by assumption), Bool.eq_false_iff.2 h]; rfl
    · have hA : (!decide (iv ch = 110) || nb) = true := by
        first
        | (rw [Classical.not_not.1 (show ¬ ¬ nb = true by assumption)]; simp)
        | (rw [decide_eq_false (by assumption)]; rfl)
      rw [hA, Bool.true_and] at hz
      refine sw_callf hkp ?_
      rintro _ _ (⟨kl, ok, hkq, hNk, rfl, rfl⟩ | ⟨hkq, rfl, rfl⟩)
      · have hB : (keepsQ zs).isSome = true := by rw [hkq]; rfl
        rw [hB, Bool.or_true, Bool.true_and] at hz
        repeat' (first | with_reducible refine sw_in (by omega) ?_ | with_reducible (first | refine go1 ?_ | refine sct ?_ | refine scf ?_ | refine sgr ?_) | with_reducible refine sw_op (h := runop_sidx (by omega) hc) ?_ | with_reducible refine sw_guard_skip_u ?_ | (with_reducible refine sc_cond (fun h => ?_) (fun h => ?_)) <;> (try (exfalso; first | contradiction | omega | exact h Iff.rfl)) | (with_reducible refine sw_guard_split (fun h => ?_) (fun h => ?_)) <;> (try (exfalso; first | contradiction | omega | exact h Iff.rfl)) | (with_reducible refine sw_pick (fun h => ?_) (fun h => ?_)) <;> (try (exfalso; first | contradiction | omega | exact h Iff.rfl)) | fail)
        all_goals refine sq_round ⟨i + 1, by omega, hz⟩ (by show ws.length - (i + 1) < ws.length - i; omega) ?_ ?_
        all_goals (first | ((repeat' (first | exact says_nil | refine says_cons rfl ?_ | refine says_cons (by simp) ?_)); done) | (repeat' (first | with_reducible exact Ent.refl _ | with_reducible refine Ent.take_eq ?_ ?_ | rfl | with_reducible refine Ent.oR ?_ | with_reducible refine Ent.trans (oR.drop _ _ _) ?_ | with_reducible refine Ent.trans (Ent.drop _ _) ?_)))
      · have hB : (keepsQ zs).isSome = false := by rw [hkq]; rfl
        rw [hB, Bool.or_false] at hz
        repeat' (first | with_reducible refine sw_in (by omega) ?_ | with_reducible (first | refine go1 ?_ | refine sct ?_ | refine scf ?_ | refine sgr ?_) | with_reducible refine sw_op (h := runop_sidx (by omega) hc) ?_ | with_reducible refine sw_guard_skip_u ?_ | (with_reducible refine sc_cond (fun h => ?_) (fun h => ?_)) <;> (try (exfalso; first | contradiction | omega | exact h Iff.rfl)) | (with_reducible refine sw_guard_split (fun h => ?_) (fun h => ?_)) <;> (try (exfalso; first | contradiction | omega | exact h Iff.rfl)) | (with_reducible refine sw_pick (fun h => ?_) (fun h => ?_)) <;> (try (exfalso; first | contradiction | omega | exact h Iff.rfl)) | fail)
        all_goals (first
          | ((refine sq_ret1 Tryd.results30 ?_)
             refine ⟨_, ⟨?_, rfl⟩, Ent.refl _⟩
             rw [← hz, decide_eq_true h]; rfl)
          | (rw [decide_eq_false (show ¬ iv ch = 107 by first | assumption | omega), Bool.not_false, Bool.true_and] at hz
             refine sq_round ⟨i + 1, by omega, hz⟩ (by show ws.length - (i + 1) < ws.length - i; omega) ?_ ?_
             · repeat' (first | exact says_nil | refine says_cons rfl ?_ | refine says_cons (by simp) ?_)
             · repeat' (first | with_reducible exact Ent.refl _ | with_reducible refine Ent.take_eq ?_ ?_ | rfl | with_reducible refine Ent.oR ?_ | with_reducible refine Ent.trans (oR.drop _ _ _) ?_ | with_reducible refine Ent.trans (Ent.drop _ _) ?_)))
    · have hA : (!decide (iv ch = 110) || nb) = true := by
        first
        | (rw [Classical.not_not.1 (show ¬ ¬ nb = true by assumption)]; simp)
        | (rw [decide_eq_false (by assumption)]; rfl)
      rw [hA, Bool.true_and] at hz
      refine sw_callf hkp ?_
      rintro _ _ (⟨kl, ok, hkq, hNk, rfl, rfl⟩ | ⟨hkq, rfl, rfl⟩)
      · have hB : (keepsQ zs).isSome = true := by rw [hkq]; rfl
        rw [hB, Bool.or_true, Bool.true_and] at hz
        repeat' (first | with_reducible refine sw_in (by omega) ?_ | with_reducible (first | refine go1 ?_ | refine sct ?_ | refine scf ?_ | refine sgr ?_) | with_reducible refine sw_op (h := runop_sidx (by omega) hc) ?_ | with_reducible refine sw_guard_skip_u ?_ | (with_reducible refine sc_cond (fun h => ?_) (fun h => ?_)) <;> (try (exfalso; first | contradiction | omega | exact h Iff.rfl)) | (with_reducible refine sw_guard_split (fun h => ?_) (fun h => ?_)) <;> (try (exfalso; first | contradiction | omega | exact h Iff.rfl)) | (with_reducible refine sw_pick (fun h => ?_) (fun h => ?_)) <;> (try (exfalso; first | contradiction | omega | exact h Iff.rfl)) | fail)
        all_goals refine sq_round ⟨i + 1, by omega, hz⟩ (by show ws.length - (i + 1) < ws.length - i; omega) ?_ ?_
        all_goals (first | ((repeat' (first | exact says_nil | refine says_cons rfl ?_ | refine says_cons (by simp) ?_)); done) | (repeat' (first | with_reducible exact Ent.refl _ | with_reducible refine Ent.take_eq ?_ ?_ | rfl | with_reducible refine Ent.oR ?_ | with_reducible refine Ent.trans (oR.drop _ _ _) ?_ | with_reducible refine Ent.trans (Ent.drop _ _) ?_)))
      · have hB : (keepsQ zs).isSome = false := by rw [hkq]; rfl
        rw [hB, Bool.or_false] at hz
        repeat' (first | with_reducible refine sw_in (by omega) ?_ | with_reducible (first | refine go1 ?_ | refine sct ?_ | refine scf ?_ | refine sgr ?_) | with_reducible refine sw_op (h := runop_sidx (by omega) hc) ?_ | with_reducible refine sw_guard_skip_u ?_ | (with_reducible refine sc_cond (fun h => ?_) (fun h => ?_)) <;> (try (exfalso; first | contradiction | omega | exact h Iff.rfl)) | (with_reducible refine sw_guard_split (fun h => ?_) (fun h => ?_)) <;> (try (exfalso; first | contradiction | omega | exact h Iff.rfl)) | (with_reducible refine sw_pick (fun h => ?_) (fun h => ?_)) <;> (try (exfalso; first | contradiction | omega | exact h Iff.rfl)) | fail)
        all_goals (first
          | ((refine sq_ret1 Tryd.results30 ?_)
             refine ⟨_, ⟨?_, rfl⟩, Ent.refl _⟩
             rw [← hz, decide_eq_true h]; rfl)
          | (rw [decide_eq_false (show ¬ iv ch = 107 by first | assumption | omega), Bool.not_false, Bool.true_and] at hz
             refine sq_round ⟨i + 1, by omega, hz⟩ (by show ws.length - (i + 1) < ws.length - i; omega) ?_ ?_
             · repeat' (first | exact says_nil | refine says_cons rfl ?_ | refine says_cons (by simp) ?_)
             · repeat' (first | with_reducible exact Ent.refl _ | with_reducible refine Ent.take_eq ?_ ?_ | rfl | with_reducible refine Ent.oR ?_ | with_reducible refine Ent.trans (oR.drop _ _ _) ?_ | with_reducible refine Ent.trans (Ent.drop _ _) ?_)))
  · repeat' (first | with_reducible refine sw_in (by omega) ?_ | with_reducible (first | refine go1 ?_ | refine sct ?_ | refine scf ?_ | refine sgr ?_) | (with_reducible refine sc_cond (fun h => ?_) (fun h => ?_)) <;> (try (exfalso; first | contradiction | omega | exact h Iff.rfl)) | fail)
    refine sq_ret1 Tryd.results30 ?_
    refine ⟨_, ⟨?_, rfl⟩, Ent.refl _⟩
    have hw0 : ws.drop i = [] := List.drop_eq_nil_of_le (by omega)
    rw [← hz, hw0]; simp

theorem len7 {l : List Tok} (h : l.length = 7) : ∃ a0 a1 a2 a3 a4 a5 a6, l = [a0, a1, a2, a3, a4, a5, a6] := by
  match l, h with
  | [a, b, c, d, e, f, g], _ => exact ⟨a, b, c, d, e, f, g, rfl⟩
abbrev numI (w : Tok) : Value := .int .i64 ((numOf w.s).getD 0)
def cfgC (ws : List Tok) (i : Nat) : List Value := (ws.take i).map numI ++ List.replicate (7 - i) (.int .i64 0)
theorem cfg_step {ws : List Tok} {i : Nat} (h : ws.length = 7) (hi : i < 7) : (cfgC ws i).set i (numI (tk ws i)) = cfgC ws (i + 1) := by
  obtain ⟨a0, a1, a2, a3, a4, a5, a6, rfl⟩ := len7 h
  match i, hi with
  | 0, _ => rfl
  | 1, _ => rfl
  | 2, _ => rfl
  | 3, _ => rfl
  | 4, _ => rfl
  | 5, _ => rfl
  | 6, _ => rfl
theorem cfgC_len {ws : List Tok} {i : Nat} (h : ws.length = 7) (hi : i ≤ 7) : (cfgC ws i).length = 7 := by
  unfold cfgC; rw [List.length_append, List.length_map, List.length_take, List.length_replicate]; omega

set_option maxHeartbeats 4000000 in
theorem qConfig_ok (w : Tok) (ws : List Tok) (b o c : Nat) (t : List Value) (hB : Beh w ws o c t) (hl : ws.length = 7) (hsz : ∀ x ∈ ws, x.s.length ≤ 1073741824) :
    Spec Tryd.prog 31 [.slice (some ⟨b, o, none⟩) ws.length c] [b] [pts b (.cells (tokC (w :: ws) ++ t).toArray 63 (0, 0))]
    fun F v Rs' => v = .agg (ws.map numI).toArray ∧ Rs' = (b, pts b (.cells (tokC (w :: ws) ++ t).toArray 63 (0, 0))) :: F := by
  obtain ⟨_, hS, hT⟩ := hB
  generalize tokC (w :: ws) ++ t = row at *
  refine spec_of Tryd.func31 rfl Tryd.ntmps31 rfl ?_
  intro w0 F
  repeat' (first | with_reducible (first | refine go1 ?_ | refine sct ?_ | refine scf ?_ | refine sgr ?_) | with_reducible refine sw_alloc fun b3 => ?_ | fail)
  rename_i b2
  refine sc_loop (α := { i : Nat // i ≤ 7 }) (fun i => [(0, .slice (some ⟨b, o, none⟩) ws.length c), (2, .pointer (some ⟨b2, 0, none⟩)), (3, .pointer (some ⟨b3, 0, none⟩)), (4, .int .i64 (i.1 : Int))])
    (fun i => (b3, pts b3 (.cells (cfgC ws i.1).toArray 103 (0, 0))) :: (b2, pts b2 (.cells [Value.int .i64 0, .int .i64 0, .int .i64 0, .int .i64 0, .int .i64 0, .int .i64 0, .int .i64 0].toArray 23 (0, 0))) :: (b, pts b (.cells row.toArray 63 (0, 0))) :: F) (fun i => 7 - i.1) ⟨0, Nat.zero_le _⟩ ?_ ?_ ?_
  · repeat' (first | exact says_nil | refine says_cons rfl ?_ | refine says_cons (by simp) ?_)
  · exact Ent.refl _
  rintro ⟨i, hi⟩ e
  simp only [List.cons_append, List.nil_append]
  by_cases hil : i < 7
  · have hsi := hS i (by omega)
    have hzl := hsz _ (tk_mem (show i < ws.length by omega))
    have hcl := cfgC_len hl hi
    have hst : (cfgC ws i).set i (.int .i64 ((numOf (tk ws i).s).getD 0)) = cfgC ws (i + 1) := cfg_step hl hil
    generalize tk ws i = z at *
    have hnum := qNumber_ok z.s hzl
    generalize z.s = zs at *
    unfold numV at hnum
    repeat' (first | with_reducible refine sw_in (by omega) ?_ | with_reducible (first | refine go1 ?_ | refine sct ?_ | refine scf ?_ | refine sgr ?_) | with_reducible refine sw_indexN i ⟨rfl, by omega⟩ ?_ | with_reducible refine sw_idxA i ⟨rfl, by omega⟩ ?_ | with_reducible refine sw_loadAt (.string (sB zs)) hsi ?_ | ((with_reducible refine sw_callf hnum ?_); rintro _ _ ⟨rfl, rfl⟩) | with_reducible refine sw_guard_skip_u ?_ | (with_reducible refine sc_cond (fun h => ?_) (fun h => ?_)) <;> (try (exfalso; first | contradiction | omega | exact h Iff.rfl)) | (with_reducible refine sw_guard_split (fun h => ?_) (fun h => ?_)) <;> (try (exfalso; first | contradiction | omega | exact h Iff.rfl)) | (with_reducible refine sw_pick (fun h => ?_) (fun h => ?_)) <;> (try (exfalso; first | contradiction | omega | exact h Iff.rfl)) | fail)
    refine sw_storeAt (by omega) ?_
    repeat' (first | with_reducible refine sw_in (by omega) ?_ | with_reducible (first | refine go1 ?_ | refine sct ?_ | refine scf ?_ | refine sgr ?_) | fail)
    refine sq_round ⟨i + 1, by omega⟩ (by show 7 - (i + 1) < 7 - i; omega) ?_ ?_
    · repeat' (first | exact says_nil | refine says_cons rfl ?_ | refine says_cons (by simp) ?_)
    · show Ent _ ((b3, pts b3 (.cells (cfgC ws (i + 1)).toArray 103 (0, 0))) :: (b2, pts b2 (.cells [Value.int .i64 0, .int .i64 0, .int .i64 0, .int .i64 0, .int .i64 0, .int .i64 0, .int .i64 0].toArray 23 (0, 0))) :: (b, pts b (.cells row.toArray 63 (0, 0))) :: F)
      rw [← hst, Nat.zero_add]
      repeat' (first | with_reducible exact Ent.refl _ | with_reducible refine Ent.take_eq ?_ ?_ | rfl | with_reducible refine Ent.oR ?_ | with_reducible refine Ent.trans (oR.drop _ _ _) ?_ | with_reducible refine Ent.trans (Ent.drop _ _) ?_)
  · have hi7 : i = 7 := by omega
    subst hi7
    obtain ⟨a0, a1, a2, a3, a4, a5, a6, rfl⟩ := len7 hl
    have hc7 : cfgC [a0, a1, a2, a3, a4, a5, a6] 7 = [numI a0, numI a1, numI a2, numI a3, numI a4, numI a5, numI a6] := rfl
    rw [hc7]
    repeat' (first | with_reducible refine sw_in (by omega) ?_ | with_reducible (first | refine go1 ?_ | refine sct ?_ | refine scf ?_ | refine sgr ?_) | with_reducible refine sw_idxA 0 ⟨rfl, by decide⟩ ?_ | with_reducible refine sw_idxA 1 ⟨rfl, by decide⟩ ?_ | with_reducible refine sw_idxA 2 ⟨rfl, by decide⟩ ?_ | with_reducible refine sw_idxA 3 ⟨rfl, by decide⟩ ?_ | with_reducible refine sw_idxA 4 ⟨rfl, by decide⟩ ?_ | with_reducible refine sw_idxA 5 ⟨rfl, by decide⟩ ?_ | with_reducible refine sw_idxA 6 ⟨rfl, by decide⟩ ?_ | with_reducible refine sw_loadAt (numI a0) rfl ?_ | with_reducible refine sw_loadAt (numI a1) rfl ?_ | with_reducible refine sw_loadAt (numI a2) rfl ?_ | with_reducible refine sw_loadAt (numI a3) rfl ?_ | with_reducible refine sw_loadAt (numI a4) rfl ?_ | with_reducible refine sw_loadAt (numI a5) rfl ?_ | with_reducible refine sw_loadAt (numI a6) rfl ?_ | with_reducible refine sw_build [numI a0, numI a1, numI a2, numI a3, numI a4, numI a5, numI a6] (by kernel_rfl) ?_ | with_reducible refine sw_store_agg ?_ | (with_reducible refine sc_cond (fun h => ?_) (fun h => ?_)) <;> (try (exfalso; first | contradiction | omega | exact h Iff.rfl)) | fail)
    refine sq_resA Tryd.results31 (by first | exact .inl rfl | exact .inr rfl) rfl ?_
    refine ⟨_, ⟨rfl, rfl⟩, ?_⟩
    repeat' (first | with_reducible exact Ent.refl _ | with_reducible refine Ent.take_eq ?_ ?_ | rfl | with_reducible refine Ent.oR ?_ | with_reducible refine Ent.trans (oR.drop _ _ _) ?_ | with_reducible refine Ent.trans (Ent.drop _ _) ?_)
end Go.Gsl

namespace Go.Gsl
set_option linter.unusedVariables false
open Go.Proofs

theorem fold_step {s : Bs} {p : Act × Nat} {cs : Bs} {ws : List Tok} {i : Nat} (h : i < cs.length) (h2 : i < ws.length) : foldR s p (cs.drop i) (ws.drop i) = foldR s (stepR s p (cs.getD i 0) (tk ws i)) (cs.drop (i + 1)) (ws.drop (i + 1)) := by
  rw [drop_getD h, tk_drop h2]; rfl
theorem fold_end {s : Bs} {p : Act × Nat} {cs : Bs} {ws : List Tok} (h : ws = []) : foldR s p cs ws = p := by subst h; cases cs <;> rfl

set_option maxHeartbeats 8000000 in
theorem qAct_ok (s : Bs) (w : Tok) (ws : List Tok) (b o c : Nat) (t : List Value) (cs : Bs) (hf : formOf s = some cs) (hB : Beh w ws o c t) (hlc : ws.length = cs.length) (hl : ws.length ≤ 1073741824) (hsz : ∀ x ∈ ws, x.s.length ≤ 1073741824) :
    Spec Tryd.prog 32 [.string (sB s), .slice (some ⟨b, o, none⟩) ws.length c] [b] [pts b (.cells (tokC (w :: ws) ++ t).toArray 63 (0, 0))]
    fun F v Rs' => ∃ a z, a = (foldR s (act0 s, 0) (cs.map shp) ws).1 ∧ NOk 1 (boolC a.k) a.k.length z ∧ v = .agg (actC a (nV a.k.length z)).toArray ∧ Rs' = oR (nG 4 (boolC a.k)) ((b, pts b (.cells (tokC (w :: ws) ++ t).toArray 63 (0, 0))) :: F) z := by
  obtain ⟨hoff, hS, hT⟩ := hB
  generalize tokC (w :: ws) ++ t = row at *
  have hk := qKind_ok s
  have hd := qDoes_ok s
  have hsh := qShape_ok s
  rw [shapeV_of hf] at hsh
  have hlm : (cs.map shp).length = cs.length := List.length_map ..
  generalize cs.map shp = fm at *
  obtain ⟨K, hK⟩ : ∃ K, kindN s = K := ⟨_, rfl⟩
  obtain ⟨D, hD⟩ : ∃ D, doesN s = D := ⟨_, rfl⟩
  have ha0 : act0 s = ⟨if K = 0 then D else 1, if 8 ≤ K then 16 else 0, { noCall with kind := K }, []⟩ := by unfold act0; rw [hK, hD]
  rw [hK] at hk
  rw [hD] at hd
  refine spec_of Tryd.func32 rfl Tryd.ntmps32 rfl ?_
  intro w0 F
  repeat' (first | with_reducible (first | refine go1 ?_ | refine sct ?_ | refine scf ?_ | refine sgr ?_) | with_reducible refine sw_alloc fun b3 => ?_ | with_reducible refine sw_build (actC ⟨1, 0, noCall, []⟩ (.slice none 0 0)) (by kernel_rfl) ?_ | with_reducible refine sw_store_agg ?_ | ((with_reducible refine sw_callf hk ?_); rintro _ _ ⟨rfl, rfl⟩) | ((with_reducible refine sw_callf hd ?_); rintro _ _ ⟨rfl, rfl⟩) | ((with_reducible refine sw_callf hsh ?_); rintro _ _ ⟨rfl, rfl⟩) | with_reducible refine sw_store ?_ | (with_reducible refine sc_cond (fun h => ?_) (fun h => ?_)) <;> (try (exfalso; first | contradiction | omega | exact h Iff.rfl)) | fail)
  all_goals rename_i b4 _
  all_goals
    refine sc_loop (α := { x : Nat × Act × Nat × Option (Nat × Nat × List Value) // x.1 ≤ ws.length ∧ x.2.2.1 ≤ x.1 ∧ NOk 1 (boolC x.2.1.k) x.2.1.k.length x.2.2.2 ∧ foldR s (x.2.1, x.2.2.1) (fm.drop x.1) (ws.drop x.1) = foldR s (act0 s, 0) fm ws })
      (fun x => [(0, .string (sB s)), (1, .slice (some ⟨b, o, none⟩) ws.length c), (4, .pointer (some ⟨b4, 0, none⟩)), (5, .pointer (some ⟨b3, 0, none⟩)), (6, .string (sB fm)), (8, .int .i64 (x.1.2.2.1 : Int)), (9, .int .i64 (x.1.1 : Int))])
      (fun x => oR (nG 4 (boolC x.1.2.1.k)) ((b3, pts b3 (.cells (actC x.1.2.1 (nV x.1.2.1.k.length x.1.2.2.2)).toArray 46 (0, 0))) :: (b4, pts b4 (.cells (actC ⟨0, 0, noCall, []⟩ (.slice none 0 0)).toArray 46 (0, 0))) :: (b, pts b (.cells row.toArray 63 (0, 0))) :: F) x.1.2.2.2)
      (fun x => ws.length - x.1.1) ⟨(0, act0 s, 0, none), Nat.zero_le _, Nat.le_refl _, ⟨by rw [ha0]; rfl, fun _ => ⟨by rw [ha0]; rfl, by rw [ha0]; rfl⟩, fun b c t h => by cases h⟩, rfl⟩ ?_ ?_ ?_
  all_goals (first | ((repeat' (first | exact says_nil | refine says_cons rfl ?_ | refine says_cons (by simp) ?_)); done) | skip)
  · show Ent _ ((b3, pts b3 (.cells (actC (act0 s) (nV (act0 s).k.length none)).toArray 46 (0, 0))) :: (b4, pts b4 (.cells (actC ⟨0, 0, noCall, []⟩ (.slice none 0 0)).toArray 46 (0, 0))) :: (b, pts b (.cells row.toArray 63 (0, 0))) :: F)
    rw [ha0, if_pos (by assumption), if_neg (by assumption)]
    repeat' (first | with_reducible exact Ent.refl _ | with_reducible refine Ent.take_eq ?_ ?_ | rfl | with_reducible refine Ent.oR ?_ | with_reducible refine Ent.trans (oR.drop _ _ _) ?_ | with_reducible refine Ent.trans (Ent.drop _ _) ?_)
  rotate_left
  · show Ent _ ((b3, pts b3 (.cells (actC (act0 s) (nV (act0 s).k.length none)).toArray 46 (0, 0))) :: (b4, pts b4 (.cells (actC ⟨0, 0, noCall, []⟩ (.slice none 0 0)).toArray 46 (0, 0))) :: (b, pts b (.cells row.toArray 63 (0, 0))) :: F)
    rw [ha0, if_neg (by assumption), if_pos (by assumption)]
    repeat' (first | with_reducible exact Ent.refl _ | with_reducible refine Ent.take_eq ?_ ?_ | rfl | with_reducible refine Ent.oR ?_ | with_reducible refine Ent.trans (oR.drop _ _ _) ?_ | with_reducible refine Ent.trans (Ent.drop _ _) ?_)
  rotate_left
  · show Ent _ ((b3, pts b3 (.cells (actC (act0 s) (nV (act0 s).k.length none)).toArray 46 (0, 0))) :: (b4, pts b4 (.cells (actC ⟨0, 0, noCall, []⟩ (.slice none 0 0)).toArray 46 (0, 0))) :: (b, pts b (.cells row.toArray 63 (0, 0))) :: F)
    rw [ha0, if_neg (by assumption), if_neg (by assumption)]
    repeat' (first | with_reducible exact Ent.refl _ | with_reducible refine Ent.take_eq ?_ ?_ | rfl | with_reducible refine Ent.oR ?_ | with_reducible refine Ent.trans (oR.drop _ _ _) ?_ | with_reducible refine Ent.trans (Ent.drop _ _) ?_)
  rotate_left
  all_goals (
  clear ha0 hk hd hsh
  rintro ⟨⟨i, ⟨d, n, ⟨kind, level, key, value, low, high⟩, k⟩, tx, z⟩, hi, htx, hz, hfo⟩ e
  dsimp only at hi htx hz hfo
  simp only [List.cons_append, List.nil_append]
  by_cases hil : i < ws.length
  · have hsi := hS i hil
    have hzl := hsz _ (tk_mem hil)
    have hstep := fold_step (s := s) (p := (⟨d, n, ⟨kind, level, key, value, low, high⟩, k⟩, tx)) (cs := fm) (ws := ws) (i := i) (by omega) hil
    obtain ⟨ch, hch⟩ : ∃ ch, fm.getD i 0 = ch := ⟨_, rfl⟩
    obtain ⟨⟨zs, zt⟩, hzz⟩ : ∃ z, tk ws i = z := ⟨_, rfl⟩
    have hc : fm[((i : Int)).toNat]? = some ch := by rw [Int.toNat_natCast, ← hch, List.getD_eq_getElem?_getD, List.getElem?_eq_getElem (by omega)]; rfl
    rw [hzz] at hsi hzl hstep
    rw [hch] at hstep
    simp only at hsi hzl
    have hnum := qNumber_ok zs hzl
    have hkp := qKeeps_ok zs hzl
    unfold numV at hnum
    repeat' (first | with_reducible refine sw_in (by omega) ?_ | with_reducible (first | refine go1 ?_ | refine sct ?_ | refine scf ?_ | refine sgr ?_) | with_reducible refine sw_indexN i ⟨rfl, by omega⟩ ?_ | with_reducible refine sw_loadAt (.string (sB zs)) hsi ?_ | with_reducible refine sw_op (h := runop_sidx (by omega) hc) ?_ | ((with_reducible refine sw_callf hnum ?_); rintro _ _ ⟨rfl, rfl⟩) | with_reducible refine sw_store ?_ | with_reducible refine sw_guard_skip_u ?_ | (with_reducible refine sc_cond (fun h => ?_) (fun h => ?_)) <;> (try (exfalso; first | contradiction | omega | exact h Iff.rfl)) | (with_reducible refine sw_guard_split (fun h => ?_) (fun h => ?_)) <;> (try (exfalso; first | contradiction | omega | exact h Iff.rfl)) | (with_reducible refine sw_pick (fun h => ?_) (fun h => ?_)) <;> (try (exfalso; first | contradiction | omega | exact h Iff.rfl)) | fail)
    · have hst : stepR s (⟨d, n, ⟨kind, level, key, value, low, high⟩, k⟩, tx) ch ⟨zs, zt⟩ = (⟨d, (numOf zs).getD 0, ⟨kind, level, key, value, low, high⟩, k⟩, tx) := by
        unfold stepR; rw [if_pos (by assumption)]
      rw [hst] at hstep
      refine sq_round ⟨(i + 1, ⟨d, (numOf zs).getD 0, ⟨kind, level, key, value, low, high⟩, k⟩, tx, z), by dsimp only; omega, by dsimp only; omega, by dsimp only; first | exact hz | assumption | exact ⟨rfl, fun _ => ⟨rfl, rfl⟩, fun b c t h => by cases h⟩, by dsimp only; rw [← hfo, hstep]⟩ (by show ws.length - (i + 1) < ws.length - i; omega) ?_ ?_
      · repeat' (first | exact says_nil | refine says_cons rfl ?_ | refine says_cons (by simp) ?_)
      · repeat' (first | with_reducible exact Ent.refl _ | with_reducible refine Ent.take_eq ?_ ?_ | rfl | with_reducible refine Ent.oR ?_ | with_reducible refine Ent.trans (oR.drop _ _ _) ?_ | with_reducible refine Ent.trans (Ent.drop _ _) ?_)
    · refine sw_callf hkp ?_
      rintro _ _ (⟨kl, ok, hkq, hNk, rfl, rfl⟩ | ⟨hkq, rfl, rfl⟩)
      · repeat' (first | with_reducible refine sw_in (by omega) ?_ | with_reducible (first | refine go1 ?_ | refine sct ?_ | refine scf ?_ | refine sgr ?_) | with_reducible refine sw_store ?_ | fail)
        have hst : stepR s (⟨d, n, ⟨kind, level, key, value, low, high⟩, k⟩, tx) ch ⟨zs, zt⟩ = (⟨d, n, ⟨kind, level, key, value, low, high⟩, kl⟩, tx) := by
          unfold stepR; rw [if_neg (by assumption), if_pos (by assumption), hkq]; rfl
        rw [hst] at hstep
        refine sq_round ⟨(i + 1, ⟨d, n, ⟨kind, level, key, value, low, high⟩, kl⟩, tx, ok), by dsimp only; omega, by dsimp only; omega, by dsimp only; first | exact hz | assumption | exact ⟨rfl, fun _ => ⟨rfl, rfl⟩, fun b c t h => by cases h⟩, by dsimp only; rw [← hfo, hstep]⟩ (by show ws.length - (i + 1) < ws.length - i; omega) ?_ ?_
        · repeat' (first | exact says_nil | refine says_cons rfl ?_ | refine says_cons (by simp) ?_)
        · repeat' (first | with_reducible exact Ent.refl _ | with_reducible refine Ent.take_eq ?_ ?_ | rfl | with_reducible refine Ent.oR ?_ | with_reducible refine Ent.trans (oR.drop _ _ _) ?_ | with_reducible refine Ent.trans (Ent.drop _ _) ?_)
      · repeat' (first | with_reducible refine sw_in (by omega) ?_ | with_reducible (first | refine go1 ?_ | refine sct ?_ | refine scf ?_ | refine sgr ?_) | with_reducible refine sw_store ?_ | fail)
        have hst : stepR s (⟨d, n, ⟨kind, level, key, value, low, high⟩, k⟩, tx) ch ⟨zs, zt⟩ = (⟨d, n, ⟨kind, level, key, value, low, high⟩, []⟩, tx) := by
          unfold stepR; rw [if_neg (by assumption), if_pos (by assumption), hkq]; rfl
        rw [hst] at hstep
        refine sq_round ⟨(i + 1, ⟨d, n, ⟨kind, level, key, value, low, high⟩, []⟩, tx, none), by dsimp only; omega, by dsimp only; omega, ⟨rfl, fun _ => ⟨rfl, rfl⟩, fun b c t h => by cases h⟩, by dsimp only; rw [← hfo, hstep]⟩ (by show ws.length - (i + 1) < ws.length - i; omega) ?_ ?_
        · repeat' (first | exact says_nil | refine says_cons rfl ?_ | refine says_cons (by simp) ?_)
        · show Ent _ ((b3, pts b3 (.cells (actC ⟨d, n, ⟨kind, level, key, value, low, high⟩, []⟩ (.slice none 0 0)).toArray 46 (0, 0))) :: (b4, pts b4 (.cells (actC ⟨0, 0, noCall, []⟩ (.slice none 0 0)).toArray 46 (0, 0))) :: (b, pts b (.cells row.toArray 63 (0, 0))) :: F)
          repeat' (first | with_reducible exact Ent.refl _ | with_reducible refine Ent.take_eq ?_ ?_ | rfl | with_reducible refine Ent.oR ?_ | with_reducible refine Ent.trans (oR.drop _ _ _) ?_ | with_reducible refine Ent.trans (Ent.drop _ _) ?_)
    · have hst : stepR s (⟨d, n, ⟨kind, level, key, value, low, high⟩, k⟩, tx) ch ⟨zs, zt⟩ = (⟨d, n, ⟨kind, 2, key, value, low, high⟩, k⟩, tx) := by
        unfold stepR; rw [if_neg (by assumption), if_neg (by assumption), if_pos (by assumption), if_pos (show zs = wSerial by assumption)]
      rw [hst] at hstep
      refine sq_round ⟨(i + 1, ⟨d, n, ⟨kind, 2, key, value, low, high⟩, k⟩, tx, z), by dsimp only; omega, by dsimp only; omega, by dsimp only; first | exact hz | assumption | exact ⟨rfl, fun _ => ⟨rfl, rfl⟩, fun b c t h => by cases h⟩, by dsimp only; rw [← hfo, hstep]⟩ (by show ws.length - (i + 1) < ws.length - i; omega) ?_ ?_
      · repeat' (first | exact says_nil | refine says_cons rfl ?_ | refine says_cons (by simp) ?_)
      · repeat' (first | with_reducible exact Ent.refl _ | with_reducible refine Ent.take_eq ?_ ?_ | rfl | with_reducible refine Ent.oR ?_ | with_reducible refine Ent.trans (oR.drop _ _ _) ?_ | with_reducible refine Ent.trans (Ent.drop _ _) ?_)
    · have hst : stepR s (⟨d, n, ⟨kind, level, key, value, low, high⟩, k⟩, tx) ch ⟨zs, zt⟩ = (⟨d, n, ⟨kind, 1, key, value, low, high⟩, k⟩, tx) := by
        unfold stepR; rw [if_neg (by assumption), if_neg (by assumption), if_pos (by assumption), if_neg (show ¬ zs = wSerial by assumption)]
      rw [hst] at hstep
      refine sq_round ⟨(i + 1, ⟨d, n, ⟨kind, 1, key, value, low, high⟩, k⟩, tx, z), by dsimp only; omega, by dsimp only; omega, by dsimp only; first | exact hz | assumption | exact ⟨rfl, fun _ => ⟨rfl, rfl⟩, fun b c t h => by cases h⟩, by dsimp only; rw [← hfo, hstep]⟩ (by show ws.length - (i + 1) < ws.length - i; omega) ?_ ?_
      · repeat' (first | exact says_nil | refine says_cons rfl ?_ | refine says_cons (by simp) ?_)
      · repeat' (first | with_reducible exact Ent.refl _ | with_reducible refine Ent.take_eq ?_ ?_ | rfl | with_reducible refine Ent.oR ?_ | with_reducible refine Ent.trans (oR.drop _ _ _) ?_ | with_reducible refine Ent.trans (Ent.drop _ _) ?_)
    · have hst : stepR s (⟨d, n, ⟨kind, level, key, value, low, high⟩, k⟩, tx) ch ⟨zs, zt⟩ = (⟨d, n, ⟨kind, level, key, value, zs, high⟩, k⟩, (tx + 1)) := by
        unfold stepR; rw [if_neg (by assumption), if_neg (by assumption), if_neg (by assumption), if_pos (by assumption), if_pos (show s = wScan by assumption), if_pos (by omega)]
      rw [hst] at hstep
      refine sq_round ⟨(i + 1, ⟨d, n, ⟨kind, level, key, value, zs, high⟩, k⟩, (tx + 1), z), by dsimp only; omega, by dsimp only; omega, by dsimp only; first | exact hz | assumption | exact ⟨rfl, fun _ => ⟨rfl, rfl⟩, fun b c t h => by cases h⟩, by dsimp only; rw [← hfo, hstep]⟩ (by show ws.length - (i + 1) < ws.length - i; omega) ?_ ?_
      · repeat' (first | exact says_nil | refine says_cons rfl ?_ | refine says_cons (by simp) ?_)
      · repeat' (first | with_reducible exact Ent.refl _ | with_reducible refine Ent.take_eq ?_ ?_ | rfl | with_reducible refine Ent.oR ?_ | with_reducible refine Ent.trans (oR.drop _ _ _) ?_ | with_reducible refine Ent.trans (Ent.drop _ _) ?_)
    · have hst : stepR s (⟨d, n, ⟨kind, level, key, value, low, high⟩, k⟩, tx) ch ⟨zs, zt⟩ = (⟨d, n, ⟨kind, level, key, value, low, zs⟩, k⟩, (tx + 1)) := by
        unfold stepR; rw [if_neg (by assumption), if_neg (by assumption), if_neg (by assumption), if_pos (by assumption), if_pos (show s = wScan by assumption), if_neg (by omega)]
      rw [hst] at hstep
      refine sq_round ⟨(i + 1, ⟨d, n, ⟨kind, level, key, value, low, zs⟩, k⟩, (tx + 1), z), by dsimp only; omega, by dsimp only; omega, by dsimp only; first | exact hz | assumption | exact ⟨rfl, fun _ => ⟨rfl, rfl⟩, fun b c t h => by cases h⟩, by dsimp only; rw [← hfo, hstep]⟩ (by show ws.length - (i + 1) < ws.length - i; omega) ?_ ?_
      · repeat' (first | exact says_nil | refine says_cons rfl ?_ | refine says_cons (by simp) ?_)
      · repeat' (first | with_reducible exact Ent.refl _ | with_reducible refine Ent.take_eq ?_ ?_ | rfl | with_reducible refine Ent.oR ?_ | with_reducible refine Ent.trans (oR.drop _ _ _) ?_ | with_reducible refine Ent.trans (Ent.drop _ _) ?_)
    · have hst : stepR s (⟨d, n, ⟨kind, level, key, value, low, high⟩, k⟩, tx) ch ⟨zs, zt⟩ = (⟨d, n, ⟨kind, level, zs, value, low, high⟩, k⟩, (tx + 1)) := by
        unfold stepR; rw [if_neg (by assumption), if_neg (by assumption), if_neg (by assumption), if_pos (by assumption), if_neg (show ¬ s = wScan by assumption), if_pos (by omega)]
      rw [hst] at hstep
      refine sq_round ⟨(i + 1, ⟨d, n, ⟨kind, level, zs, value, low, high⟩, k⟩, (tx + 1), z), by dsimp only; omega, by dsimp only; omega, by dsimp only; first | exact hz | assumption | exact ⟨rfl, fun _ => ⟨rfl, rfl⟩, fun b c t h => by cases h⟩, by dsimp only; rw [← hfo, hstep]⟩ (by show ws.length - (i + 1) < ws.length - i; omega) ?_ ?_
      · repeat' (first | exact says_nil | refine says_cons rfl ?_ | refine says_cons (by simp) ?_)
      · repeat' (first | with_reducible exact Ent.refl _ | with_reducible refine Ent.take_eq ?_ ?_ | rfl | with_reducible refine Ent.oR ?_ | with_reducible refine Ent.trans (oR.drop _ _ _) ?_ | with_reducible refine Ent.trans (Ent.drop _ _) ?_)
    · have hst : stepR s (⟨d, n, ⟨kind, level, key, value, low, high⟩, k⟩, tx) ch ⟨zs, zt⟩ = (⟨d, n, ⟨kind, level, key, zs, low, high⟩, k⟩, (tx + 1)) := by
        unfold stepR; rw [if_neg (by assumption), if_neg (by assumption), if_neg (by assumption), if_pos (by assumption), if_neg (show ¬ s = wScan by assumption), if_neg (by omega)]
      rw [hst] at hstep
      refine sq_round ⟨(i + 1, ⟨d, n, ⟨kind, level, key, zs, low, high⟩, k⟩, (tx + 1), z), by dsimp only; omega, by dsimp only; omega, by dsimp only; first | exact hz | assumption | exact ⟨rfl, fun _ => ⟨rfl, rfl⟩, fun b c t h => by cases h⟩, by dsimp only; rw [← hfo, hstep]⟩ (by show ws.length - (i + 1) < ws.length - i; omega) ?_ ?_
      · repeat' (first | exact says_nil | refine says_cons rfl ?_ | refine says_cons (by simp) ?_)
      · repeat' (first | with_reducible exact Ent.refl _ | with_reducible refine Ent.take_eq ?_ ?_ | rfl | with_reducible refine Ent.oR ?_ | with_reducible refine Ent.trans (oR.drop _ _ _) ?_ | with_reducible refine Ent.trans (Ent.drop _ _) ?_)
    · have hst : stepR s (⟨d, n, ⟨kind, level, key, value, low, high⟩, k⟩, tx) ch ⟨zs, zt⟩ = (⟨d, n, ⟨kind, level, key, value, low, high⟩, k⟩, tx) := by
        unfold stepR; rw [if_neg (by assumption), if_neg (by assumption), if_neg (by assumption), if_neg (by assumption)]
      rw [hst] at hstep
      refine sq_round ⟨(i + 1, ⟨d, n, ⟨kind, level, key, value, low, high⟩, k⟩, tx, z), by dsimp only; omega, by dsimp only; omega, by dsimp only; first | exact hz | assumption | exact ⟨rfl, fun _ => ⟨rfl, rfl⟩, fun b c t h => by cases h⟩, by dsimp only; rw [← hfo, hstep]⟩ (by show ws.length - (i + 1) < ws.length - i; omega) ?_ ?_
      · repeat' (first | exact says_nil | refine says_cons rfl ?_ | refine says_cons (by simp) ?_)
      · repeat' (first | with_reducible exact Ent.refl _ | with_reducible refine Ent.take_eq ?_ ?_ | rfl | with_reducible refine Ent.oR ?_ | with_reducible refine Ent.trans (oR.drop _ _ _) ?_ | with_reducible refine Ent.trans (Ent.drop _ _) ?_)
  · repeat' (first | with_reducible (first | refine go1 ?_ | refine sct ?_ | refine scf ?_ | refine sgr ?_) | with_reducible refine sw_store_agg ?_ | (with_reducible refine sc_cond (fun h => ?_) (fun h => ?_)) <;> (try (exfalso; first | contradiction | omega | exact h Iff.rfl)) | fail)
    refine sq_resA Tryd.results32 (by first | exact .inl rfl | exact .inr rfl) rfl ?_
    have hw0 : ws.drop i = [] := List.drop_eq_nil_of_le (by omega)
    rw [fold_end hw0] at hfo
    refine ⟨_, ⟨⟨d, n, ⟨kind, level, key, value, low, high⟩, k⟩, z, by rw [← hfo], hz, rfl, rfl⟩, ?_⟩
    repeat' (first | with_reducible exact Ent.refl _ | with_reducible refine Ent.take_eq ?_ ?_ | rfl | with_reducible refine Ent.oR ?_ | with_reducible refine Ent.trans (oR.drop _ _ _) ?_ | with_reducible refine Ent.trans (Ent.drop _ _) ?_))
end Go.Gsl
