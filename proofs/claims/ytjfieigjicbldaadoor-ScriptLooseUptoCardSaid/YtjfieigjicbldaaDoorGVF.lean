/- A script's text: the walk. -/
import Derived.Test.YtjfieigjicbldaaDoorGVE
import Derived.Test.YtjfieigjicbldaaDoorGE
namespace Go.Gsl
set_option linter.unusedVariables false
open Go.Proofs

def printV (c : List Int) (l : List Act) : Value := match printS c l with
  | .ok s => .tuple #[.string (sB s), .int .i64 0]
  | .error e => .tuple #[.string (sB []), .int .i64 e]
theorem linesS_step {l : List Act} {i : Nat} {xs : List Bs} (hi : i < l.length) (h : linesS (l.take i) = some xs) : linesS (l.take (i + 1)) = (lineS (l.getD i act00)).map fun s => xs ++ [s] := by
  rw [List.take_add_one, getD_some act00 hi, linesS_app, h]
  simp only [Option.bind_some, Option.toList, linesS]
  cases lineS (l.getD i act00) with
  | none => rfl
  | some s => rfl
theorem print_bad {c : List Int} {l : List Act} {i : Nat} (hi : i < l.length) {xs : List Bs} (h : linesS (l.take i) = some xs) (hn : lineS (l.getD i act00) = none) : printV c l = .tuple #[.string (sB []), .int .i64 1] := by
  have h1 := linesS_step hi h
  rw [hn] at h1
  have h2 : linesS l = none := by
    rw [← List.take_append_drop (i + 1) l]
    exact linesS_none h1
  unfold printV printS; rw [h2]
theorem getD_mem {l : List Act} {i : Nat} (hi : i < l.length) : l.getD i act00 ∈ l := by rw [List.getD_eq_getElem?_getD, List.getElem?_eq_getElem hi]; exact List.getElem_mem hi
theorem strC_app (a b : List Bs) : strC (a ++ b) = strC a ++ strC b := by unfold strC; simp
theorem strC_len (a : List Bs) : (strC a).length = a.length := by unfold strC; simp
theorem str_one (s : Bs) : ∀ v ∈ [Value.string (sB s)], v.oneCell' = true := by
  intro v hv; simp only [List.mem_cons, List.not_mem_nil, or_false] at hv; subst hv; rfl
theorem RdT.of_n {xs : List Bs} {o : Option (Nat × Nat × List Value)} (h : NOk 1 (strC xs) xs.length o) (b c : Nat) (t : List Value) (ho : o = some (b, c, t)) : RdT (pts b (.cells (strC xs ++ t).toArray 9 (0, 0))) (nV xs.length o) xs := by
  subst ho
  exact ⟨some ⟨b, 0, none⟩, c, rfl, (h.2.2 b c t rfl).1, fun _ => ⟨b, 0, rfl⟩, reads_pts fun j v hj => by rw [Nat.zero_add, List.getElem?_append_left (List.getElem?_eq_some_iff.1 hj).1]; exact hj⟩

set_option maxHeartbeats 8000000 in
theorem sPrint_ok (W : World) (hT : Tabs Tryd.prog W) (K : Nat) (r : HProp) (c0 c1 c2 c3 c4 c5 c6 : Int) (h0 : -9223372036854775808 ≤ c0 ∧ c0 ≤ 9223372036854775807) (h1 : -9223372036854775808 ≤ c1 ∧ c1 ≤ 9223372036854775807) (h2 : -9223372036854775808 ≤ c2 ∧ c2 ≤ 9223372036854775807) (h3 : -9223372036854775808 ≤ c3 ∧ c3 ≤ 9223372036854775807)
    (h4 : -9223372036854775808 ≤ c4 ∧ c4 ≤ 9223372036854775807) (h5 : -9223372036854775808 ≤ c5 ∧ c5 ≤ 9223372036854775807) (h6 : -9223372036854775808 ≤ c6 ∧ c6 ≤ 9223372036854775807) (va : Value) (l : List Act) (hA : RdAs r va l) (hs : ∀ a ∈ l, a.small) (hl : l.length ≤ 1048576) :
    Spec Tryd.prog 21 [.agg ([.int .i64 c0, .int .i64 c1, .int .i64 c2, .int .i64 c3, .int .i64 c4, .int .i64 c5, .int .i64 c6, va] : List Value).toArray] [0, K] [ro W, r]
    fun F v Rs' => v = printV [c0, c1, c2, c3, c4, c5, c6] l ∧ Rs' = (0, ro W) :: (K, r) :: F := by
  obtain ⟨a, c, av, rfl, hav, ha, hra, hka, hla⟩ := hA
  have hcl : ([.int .i64 c0, .int .i64 c1, .int .i64 c2, .int .i64 c3, .int .i64 c4, .int .i64 c5, .int .i64 c6] : List Value).length = 7 := rfl
  have rd0 : ∀ (b : Nat) (cs : List Value), Reads (pts b (.cells cs.toArray 26 (0, 0))) (some ⟨b, 0, none⟩) cs := fun b cs => reads_pts fun j v hj => by rw [Nat.zero_add]; exact hj
  have hI0 := sItoa_ok W hT c0 h0
  have hI1 := sItoa_ok W hT c1 h1
  have hI2 := sItoa_ok W hT c2 h2
  have hI3 := sItoa_ok W hT c3 h3
  have hI4 := sItoa_ok W hT c4 h4
  have hI5 := sItoa_ok W hT c5 h5
  have hI6 := sItoa_ok W hT c6 h6
  have hhl := head_len c0 c1 c2 c3 c4 c5 c6 h0 h1 h2 h3 h4 h5 h6
  have hJ : ∀ b, Spec Tryd.prog 15 [.slice (some ⟨b, 0, none⟩) 8 8] [b] [pts b (.cells (strC ([pw wStore, pw (Lib.itoa c0), pw (Lib.itoa c1), pw (Lib.itoa c2), pw (Lib.itoa c3), pw (Lib.itoa c4), pw (Lib.itoa c5), pw (Lib.itoa c6)].map tokT)).toArray 9 (0, 0))]
      fun F v Rs' => v = .string (sB (headS [c0, c1, c2, c3, c4, c5, c6])) ∧ Rs' = (b, pts b (.cells (strC ([pw wStore, pw (Lib.itoa c0), pw (Lib.itoa c1), pw (Lib.itoa c2), pw (Lib.itoa c3), pw (Lib.itoa c4), pw (Lib.itoa c5), pw (Lib.itoa c6)].map tokT)).toArray 9 (0, 0))) :: F := fun b =>
    sJoinR_ok b _ _ ([pw wStore, pw (Lib.itoa c0), pw (Lib.itoa c1), pw (Lib.itoa c2), pw (Lib.itoa c3), pw (Lib.itoa c4), pw (Lib.itoa c5), pw (Lib.itoa c6)].map tokT) ⟨some ⟨b, 0, none⟩, 8, rfl, Nat.le_refl _, fun _ => ⟨b, 0, rfl⟩, reads_pts fun j v hj => by rw [Nat.zero_add]; exact hj⟩
      (by have : (headS [c0, c1, c2, c3, c4, c5, c6]).length ≤ 281474976710656 := by omega
          exact this) (by simp)
  generalize hhd : headS [c0, c1, c2, c3, c4, c5, c6] = hd at hhl hJ
  have hhd := hhd.symm
  refine spec_of Tryd.func21 rfl Tryd.ntmps21 rfl ?_
  intro w0 F
  repeat' (first | with_reducible (first | refine go1 ?_ | refine sct ?_ | refine scf ?_ | refine sgr ?_) | fail)
  refine sw_box fun b1 => ?_
  repeat' (first | with_reducible (first | refine go1 ?_ | refine sct ?_ | refine scf ?_ | refine sgr ?_) | with_reducible refine sw_load_aggR b1 0 [.int .i64 c0, .int .i64 c1, .int .i64 c2, .int .i64 c3, .int .i64 c4, .int .i64 c5, .int .i64 c6] (rd0 b1 _) hcl rfl rfl ?_ | with_reducible refine sw_alloc fun b4 => ?_ | with_reducible refine sw_store_agg ?_ | fail)
  refine sc_lin ([(b4, pts b4 (.cells ([.int .i64 c0, .int .i64 c1, .int .i64 c2, .int .i64 c3, .int .i64 c4, .int .i64 c5, .int .i64 c6] : List Value).toArray 23 (0, 0)))]) (llp 0 (llp 1 (llp 3 (llp 4 (llp 6 (llp 7 (llp 9 (llp 10 (llp 12 (llp 13 (llp 15 (llp 16 (llp 18 (llp 19 (lle 2 (lle 5 (lle 8 (lle 11 (lle 14 (lle 17 (lle 20 (lle 21 (lle 22 (lle 23 (llp 24 ll0))))))))))))))))))))))))) (by kernel_rfl) rfl (by kernel_rfl) ?_
  all_goals (iterate 14 refine go1l ?_)
  all_goals refine sl_eff ?_
  all_goals (repeat' (first | with_reducible (first | refine go1 ?_ | refine sct ?_ | refine scf ?_ | refine sgr ?_) | with_reducible refine sw_build1 fun b9 => ?_ | ((with_reducible refine sw_callf hI0 ?_); rintro _ _ ⟨rfl, rfl⟩) | ((with_reducible refine sw_callf hI1 ?_); rintro _ _ ⟨rfl, rfl⟩) | ((with_reducible refine sw_callf hI2 ?_); rintro _ _ ⟨rfl, rfl⟩) | ((with_reducible refine sw_callf hI3 ?_); rintro _ _ ⟨rfl, rfl⟩) | ((with_reducible refine sw_callf hI4 ?_); rintro _ _ ⟨rfl, rfl⟩) | ((with_reducible refine sw_callf hI5 ?_); rintro _ _ ⟨rfl, rfl⟩) | ((with_reducible refine sw_callf hI6 ?_); rintro _ _ ⟨rfl, rfl⟩) | with_reducible refine sw_buildSlice (strC ([pw wStore, pw (Lib.itoa c0), pw (Lib.itoa c1), pw (Lib.itoa c2), pw (Lib.itoa c3), pw (Lib.itoa c4), pw (Lib.itoa c5), pw (Lib.itoa c6)].map tokT)) (by omega) (by kernel_rfl) fun b7 => ?_ | ((with_reducible refine sw_callf (hJ b7) ?_); rintro _ _ ⟨rfl, rfl⟩) | with_reducible refine sl_back ?_ | fail))
  all_goals refine sl_eff ?_
  all_goals (repeat' (first | with_reducible (first | refine go1 ?_ | refine sct ?_ | refine scf ?_ | refine sgr ?_) | with_reducible refine sw_build1 fun b9 => ?_ | ((with_reducible refine sw_callf hI0 ?_); rintro _ _ ⟨rfl, rfl⟩) | ((with_reducible refine sw_callf hI1 ?_); rintro _ _ ⟨rfl, rfl⟩) | ((with_reducible refine sw_callf hI2 ?_); rintro _ _ ⟨rfl, rfl⟩) | ((with_reducible refine sw_callf hI3 ?_); rintro _ _ ⟨rfl, rfl⟩) | ((with_reducible refine sw_callf hI4 ?_); rintro _ _ ⟨rfl, rfl⟩) | ((with_reducible refine sw_callf hI5 ?_); rintro _ _ ⟨rfl, rfl⟩) | ((with_reducible refine sw_callf hI6 ?_); rintro _ _ ⟨rfl, rfl⟩) | with_reducible refine sw_buildSlice (strC ([pw wStore, pw (Lib.itoa c0), pw (Lib.itoa c1), pw (Lib.itoa c2), pw (Lib.itoa c3), pw (Lib.itoa c4), pw (Lib.itoa c5), pw (Lib.itoa c6)].map tokT)) (by omega) (by kernel_rfl) fun b7 => ?_ | ((with_reducible refine sw_callf (hJ b7) ?_); rintro _ _ ⟨rfl, rfl⟩) | with_reducible refine sl_back ?_ | fail))
  all_goals refine sl_eff ?_
  all_goals (repeat' (first | with_reducible (first | refine go1 ?_ | refine sct ?_ | refine scf ?_ | refine sgr ?_) | with_reducible refine sw_build1 fun b9 => ?_ | ((with_reducible refine sw_callf hI0 ?_); rintro _ _ ⟨rfl, rfl⟩) | ((with_reducible refine sw_callf hI1 ?_); rintro _ _ ⟨rfl, rfl⟩) | ((with_reducible refine sw_callf hI2 ?_); rintro _ _ ⟨rfl, rfl⟩) | ((with_reducible refine sw_callf hI3 ?_); rintro _ _ ⟨rfl, rfl⟩) | ((with_reducible refine sw_callf hI4 ?_); rintro _ _ ⟨rfl, rfl⟩) | ((with_reducible refine sw_callf hI5 ?_); rintro _ _ ⟨rfl, rfl⟩) | ((with_reducible refine sw_callf hI6 ?_); rintro _ _ ⟨rfl, rfl⟩) | with_reducible refine sw_buildSlice (strC ([pw wStore, pw (Lib.itoa c0), pw (Lib.itoa c1), pw (Lib.itoa c2), pw (Lib.itoa c3), pw (Lib.itoa c4), pw (Lib.itoa c5), pw (Lib.itoa c6)].map tokT)) (by omega) (by kernel_rfl) fun b7 => ?_ | ((with_reducible refine sw_callf (hJ b7) ?_); rintro _ _ ⟨rfl, rfl⟩) | with_reducible refine sl_back ?_ | fail))
  all_goals refine sl_eff ?_
  all_goals (repeat' (first | with_reducible (first | refine go1 ?_ | refine sct ?_ | refine scf ?_ | refine sgr ?_) | with_reducible refine sw_build1 fun b9 => ?_ | ((with_reducible refine sw_callf hI0 ?_); rintro _ _ ⟨rfl, rfl⟩) | ((with_reducible refine sw_callf hI1 ?_); rintro _ _ ⟨rfl, rfl⟩) | ((with_reducible refine sw_callf hI2 ?_); rintro _ _ ⟨rfl, rfl⟩) | ((with_reducible refine sw_callf hI3 ?_); rintro _ _ ⟨rfl, rfl⟩) | ((with_reducible refine sw_callf hI4 ?_); rintro _ _ ⟨rfl, rfl⟩) | ((with_reducible refine sw_callf hI5 ?_); rintro _ _ ⟨rfl, rfl⟩) | ((with_reducible refine sw_callf hI6 ?_); rintro _ _ ⟨rfl, rfl⟩) | with_reducible refine sw_buildSlice (strC ([pw wStore, pw (Lib.itoa c0), pw (Lib.itoa c1), pw (Lib.itoa c2), pw (Lib.itoa c3), pw (Lib.itoa c4), pw (Lib.itoa c5), pw (Lib.itoa c6)].map tokT)) (by omega) (by kernel_rfl) fun b7 => ?_ | ((with_reducible refine sw_callf (hJ b7) ?_); rintro _ _ ⟨rfl, rfl⟩) | with_reducible refine sl_back ?_ | fail))
  all_goals refine sl_eff ?_
  all_goals (repeat' (first | with_reducible (first | refine go1 ?_ | refine sct ?_ | refine scf ?_ | refine sgr ?_) | with_reducible refine sw_build1 fun b9 => ?_ | ((with_reducible refine sw_callf hI0 ?_); rintro _ _ ⟨rfl, rfl⟩) | ((with_reducible refine sw_callf hI1 ?_); rintro _ _ ⟨rfl, rfl⟩) | ((with_reducible refine sw_callf hI2 ?_); rintro _ _ ⟨rfl, rfl⟩) | ((with_reducible refine sw_callf hI3 ?_); rintro _ _ ⟨rfl, rfl⟩) | ((with_reducible refine sw_callf hI4 ?_); rintro _ _ ⟨rfl, rfl⟩) | ((with_reducible refine sw_callf hI5 ?_); rintro _ _ ⟨rfl, rfl⟩) | ((with_reducible refine sw_callf hI6 ?_); rintro _ _ ⟨rfl, rfl⟩) | with_reducible refine sw_buildSlice (strC ([pw wStore, pw (Lib.itoa c0), pw (Lib.itoa c1), pw (Lib.itoa c2), pw (Lib.itoa c3), pw (Lib.itoa c4), pw (Lib.itoa c5), pw (Lib.itoa c6)].map tokT)) (by omega) (by kernel_rfl) fun b7 => ?_ | ((with_reducible refine sw_callf (hJ b7) ?_); rintro _ _ ⟨rfl, rfl⟩) | with_reducible refine sl_back ?_ | fail))
  all_goals refine sl_eff ?_
  all_goals (repeat' (first | with_reducible (first | refine go1 ?_ | refine sct ?_ | refine scf ?_ | refine sgr ?_) | with_reducible refine sw_build1 fun b9 => ?_ | ((with_reducible refine sw_callf hI0 ?_); rintro _ _ ⟨rfl, rfl⟩) | ((with_reducible refine sw_callf hI1 ?_); rintro _ _ ⟨rfl, rfl⟩) | ((with_reducible refine sw_callf hI2 ?_); rintro _ _ ⟨rfl, rfl⟩) | ((with_reducible refine sw_callf hI3 ?_); rintro _ _ ⟨rfl, rfl⟩) | ((with_reducible refine sw_callf hI4 ?_); rintro _ _ ⟨rfl, rfl⟩) | ((with_reducible refine sw_callf hI5 ?_); rintro _ _ ⟨rfl, rfl⟩) | ((with_reducible refine sw_callf hI6 ?_); rintro _ _ ⟨rfl, rfl⟩) | with_reducible refine sw_buildSlice (strC ([pw wStore, pw (Lib.itoa c0), pw (Lib.itoa c1), pw (Lib.itoa c2), pw (Lib.itoa c3), pw (Lib.itoa c4), pw (Lib.itoa c5), pw (Lib.itoa c6)].map tokT)) (by omega) (by kernel_rfl) fun b7 => ?_ | ((with_reducible refine sw_callf (hJ b7) ?_); rintro _ _ ⟨rfl, rfl⟩) | with_reducible refine sl_back ?_ | fail))
  all_goals refine sl_eff ?_
  all_goals (repeat' (first | with_reducible (first | refine go1 ?_ | refine sct ?_ | refine scf ?_ | refine sgr ?_) | with_reducible refine sw_build1 fun b9 => ?_ | ((with_reducible refine sw_callf hI0 ?_); rintro _ _ ⟨rfl, rfl⟩) | ((with_reducible refine sw_callf hI1 ?_); rintro _ _ ⟨rfl, rfl⟩) | ((with_reducible refine sw_callf hI2 ?_); rintro _ _ ⟨rfl, rfl⟩) | ((with_reducible refine sw_callf hI3 ?_); rintro _ _ ⟨rfl, rfl⟩) | ((with_reducible refine sw_callf hI4 ?_); rintro _ _ ⟨rfl, rfl⟩) | ((with_reducible refine sw_callf hI5 ?_); rintro _ _ ⟨rfl, rfl⟩) | ((with_reducible refine sw_callf hI6 ?_); rintro _ _ ⟨rfl, rfl⟩) | with_reducible refine sw_buildSlice (strC ([pw wStore, pw (Lib.itoa c0), pw (Lib.itoa c1), pw (Lib.itoa c2), pw (Lib.itoa c3), pw (Lib.itoa c4), pw (Lib.itoa c5), pw (Lib.itoa c6)].map tokT)) (by omega) (by kernel_rfl) fun b7 => ?_ | ((with_reducible refine sw_callf (hJ b7) ?_); rintro _ _ ⟨rfl, rfl⟩) | with_reducible refine sl_back ?_ | fail))
  all_goals refine sl_eff ?_
  all_goals (repeat' (first | with_reducible (first | refine go1 ?_ | refine sct ?_ | refine scf ?_ | refine sgr ?_) | with_reducible refine sw_build1 fun b9 => ?_ | ((with_reducible refine sw_callf hI0 ?_); rintro _ _ ⟨rfl, rfl⟩) | ((with_reducible refine sw_callf hI1 ?_); rintro _ _ ⟨rfl, rfl⟩) | ((with_reducible refine sw_callf hI2 ?_); rintro _ _ ⟨rfl, rfl⟩) | ((with_reducible refine sw_callf hI3 ?_); rintro _ _ ⟨rfl, rfl⟩) | ((with_reducible refine sw_callf hI4 ?_); rintro _ _ ⟨rfl, rfl⟩) | ((with_reducible refine sw_callf hI5 ?_); rintro _ _ ⟨rfl, rfl⟩) | ((with_reducible refine sw_callf hI6 ?_); rintro _ _ ⟨rfl, rfl⟩) | with_reducible refine sw_buildSlice (strC ([pw wStore, pw (Lib.itoa c0), pw (Lib.itoa c1), pw (Lib.itoa c2), pw (Lib.itoa c3), pw (Lib.itoa c4), pw (Lib.itoa c5), pw (Lib.itoa c6)].map tokT)) (by omega) (by kernel_rfl) fun b7 => ?_ | ((with_reducible refine sw_callf (hJ b7) ?_); rintro _ _ ⟨rfl, rfl⟩) | with_reducible refine sl_back ?_ | fail))
  all_goals refine sl_eff ?_
  all_goals (repeat' (first | with_reducible (first | refine go1 ?_ | refine sct ?_ | refine scf ?_ | refine sgr ?_) | with_reducible refine sw_build1 fun b9 => ?_ | ((with_reducible refine sw_callf hI0 ?_); rintro _ _ ⟨rfl, rfl⟩) | ((with_reducible refine sw_callf hI1 ?_); rintro _ _ ⟨rfl, rfl⟩) | ((with_reducible refine sw_callf hI2 ?_); rintro _ _ ⟨rfl, rfl⟩) | ((with_reducible refine sw_callf hI3 ?_); rintro _ _ ⟨rfl, rfl⟩) | ((with_reducible refine sw_callf hI4 ?_); rintro _ _ ⟨rfl, rfl⟩) | ((with_reducible refine sw_callf hI5 ?_); rintro _ _ ⟨rfl, rfl⟩) | ((with_reducible refine sw_callf hI6 ?_); rintro _ _ ⟨rfl, rfl⟩) | with_reducible refine sw_buildSlice (strC ([pw wStore, pw (Lib.itoa c0), pw (Lib.itoa c1), pw (Lib.itoa c2), pw (Lib.itoa c3), pw (Lib.itoa c4), pw (Lib.itoa c5), pw (Lib.itoa c6)].map tokT)) (by omega) (by kernel_rfl) fun b7 => ?_ | ((with_reducible refine sw_callf (hJ b7) ?_); rintro _ _ ⟨rfl, rfl⟩) | with_reducible refine sl_back ?_ | fail))
  all_goals refine sl_eff ?_
  all_goals (repeat' (first | with_reducible (first | refine go1 ?_ | refine sct ?_ | refine scf ?_ | refine sgr ?_) | with_reducible refine sw_build1 fun b9 => ?_ | ((with_reducible refine sw_callf hI0 ?_); rintro _ _ ⟨rfl, rfl⟩) | ((with_reducible refine sw_callf hI1 ?_); rintro _ _ ⟨rfl, rfl⟩) | ((with_reducible refine sw_callf hI2 ?_); rintro _ _ ⟨rfl, rfl⟩) | ((with_reducible refine sw_callf hI3 ?_); rintro _ _ ⟨rfl, rfl⟩) | ((with_reducible refine sw_callf hI4 ?_); rintro _ _ ⟨rfl, rfl⟩) | ((with_reducible refine sw_callf hI5 ?_); rintro _ _ ⟨rfl, rfl⟩) | ((with_reducible refine sw_callf hI6 ?_); rintro _ _ ⟨rfl, rfl⟩) | with_reducible refine sw_buildSlice (strC ([pw wStore, pw (Lib.itoa c0), pw (Lib.itoa c1), pw (Lib.itoa c2), pw (Lib.itoa c3), pw (Lib.itoa c4), pw (Lib.itoa c5), pw (Lib.itoa c6)].map tokT)) (by omega) (by kernel_rfl) fun b7 => ?_ | ((with_reducible refine sw_callf (hJ b7) ?_); rintro _ _ ⟨rfl, rfl⟩) | with_reducible refine sl_back ?_ | fail))
  all_goals refine go1l ?_
  all_goals refine sl_done ?_
  all_goals (repeat' (first | with_reducible (first | refine go1 ?_ | refine sct ?_ | refine scf ?_ | refine sgr ?_) | fail))
  refine sc_keep [1, 5, 37, 38, 39] fun e1 => ?_
  simp only [List.cons_append, List.nil_append]
  refine sc_loop (α := { x : Nat × List Bs × Option (Nat × Nat × List Value) // x.1 ≤ l.length ∧ linesS (l.take x.1) = some x.2.1 ∧ NOk 1 (strC (hd :: x.2.1)) (hd :: x.2.1).length x.2.2 })
    (fun x => [(1, .pointer (some ⟨b1, 0, none⟩)), (5, nV (hd :: x.1.2.1).length x.1.2.2), (37, .slice a l.length c), (38, .int .i64 (l.length : Int)), (39, .int .i64 (x.1.1 : Int))])
    (fun x => oR (nG 9 (strC (hd :: x.1.2.1))) ((b1, pts b1 (.cells ([.int .i64 c0, .int .i64 c1, .int .i64 c2, .int .i64 c3, .int .i64 c4, .int .i64 c5, .int .i64 c6, .slice a l.length c] : List Value).toArray 26 (0, 0))) :: (0, ro W) :: (K, r) :: F) x.1.2.2) (fun x => l.length - x.1.1) ⟨(0, [], some (b9, 1, [])), Nat.zero_le _, rfl, ⟨rfl, fun h => (by cases h), fun b c t h => (by cases h; exact ⟨Nat.le_refl _, rfl⟩)⟩⟩ ?_ ?_ ?_
  · repeat' (first | exact says_nil | refine says_cons rfl ?_ | refine says_cons (by simp) ?_)
  · show Ent _ ((b9, pts b9 (.cells (strC [hd] ++ []).toArray 9 (0, 0))) :: (b1, pts b1 (.cells ([.int .i64 c0, .int .i64 c1, .int .i64 c2, .int .i64 c3, .int .i64 c4, .int .i64 c5, .int .i64 c6, .slice a l.length c] : List Value).toArray 26 (0, 0))) :: (0, ro W) :: (K, r) :: F)
    repeat' (first | with_reducible exact Ent.refl _ | with_reducible refine Ent.take_eq ?_ ?_ | rfl | with_reducible refine Ent.oR ?_ | with_reducible refine Ent.trans (oR.drop _ _ _) ?_ | with_reducible refine Ent.trans (Ent.drop _ _) ?_)
  rintro ⟨⟨i, xs, o⟩, hi, hxs, hN⟩ e
  dsimp only at hi hxs hN
  simp only [List.cons_append, List.nil_append]
  have hxl := linesS_len hxs
  rw [List.length_take] at hxl
  have hcons : (hd :: xs).length = xs.length + 1 := rfl
  by_cases hil : i < l.length
  · obtain ⟨b, o', rfl⟩ := ha (by omega)
    obtain ⟨kv, hm1, hv1⟩ := avC_part hav hil act00
    have hLn := Line_ok W hT K r (l.getD i act00) kv (hka _ hm1) (hs _ (getD_mem hil))
    obtain ⟨ka, kc, hkv, _, _⟩ := hka _ hm1
    simp only at hkv
    subst hkv
    have hbad := fun h => print_bad (c := [c0, c1, c2, c3, c4, c5, c6]) hil hxs h
    have hst := linesS_step hil hxs
    generalize l.getD i act00 = u at *
    have hul : (actC u (.slice ka u.k.length kc)).length = 9 := rfl
    cases hu : lineS u with
    | none =>
      rw [lineV_none hu] at hLn
      have hbad := hbad hu
      repeat' (first | with_reducible refine sw_in (by omega) ?_ | with_reducible (first | refine go1 ?_ | refine sct ?_ | refine scf ?_ | refine sgr ?_) | with_reducible refine sw_indexN i ⟨rfl, by omega⟩ ?_ | with_reducible refine sw_load_aggR K (i * 9) (actC u (.slice ka u.k.length kc)) hra hul hv1 (by omega) ?_ | with_reducible refine sw_alloc fun b7 => ?_ | with_reducible refine sw_store_agg ?_ | ((with_reducible refine sw_callf hLn ?_); rintro _ _ ⟨rfl, rfl⟩) | with_reducible refine sw_guard_skip_u ?_ | (with_reducible refine sc_cond (fun h => ?_) (fun h => ?_)) <;> (try (exfalso; first | contradiction | omega | exact h Iff.rfl)) | (with_reducible refine sw_guard_split (fun h => ?_) (fun h => ?_)) <;> (try (exfalso; first | contradiction | omega | exact h Iff.rfl)) | (with_reducible refine sw_pick (fun h => ?_) (fun h => ?_)) <;> (try (exfalso; first | contradiction | omega | exact h Iff.rfl)) | fail)
      refine sq_ret2 Tryd.results21 ?_
      refine ⟨_, ⟨hbad.symm, rfl⟩, ?_⟩
      repeat' (first | with_reducible exact Ent.refl _ | with_reducible refine Ent.take_eq ?_ ?_ | rfl | with_reducible refine Ent.oR ?_ | with_reducible refine Ent.trans (oR.drop _ _ _) ?_ | with_reducible refine Ent.trans (Ent.drop _ _) ?_)
    | some s =>
      rw [lineV_some hu] at hLn
      rw [hu] at hst
      repeat' (first | with_reducible refine sw_in (by omega) ?_ | with_reducible (first | refine go1 ?_ | refine sct ?_ | refine scf ?_ | refine sgr ?_) | with_reducible refine sw_indexN i ⟨rfl, by omega⟩ ?_ | with_reducible refine sw_load_aggR K (i * 9) (actC u (.slice ka u.k.length kc)) hra hul hv1 (by omega) ?_ | with_reducible refine sw_alloc fun b7 => ?_ | with_reducible refine sw_store_agg ?_ | ((with_reducible refine sw_callf hLn ?_); rintro _ _ ⟨rfl, rfl⟩) | with_reducible refine sw_build1 fun b8 => ?_ | with_reducible refine sw_guard_skip_u ?_ | (with_reducible refine sc_cond (fun h => ?_) (fun h => ?_)) <;> (try (exfalso; first | contradiction | omega | exact h Iff.rfl)) | (with_reducible refine sw_guard_split (fun h => ?_) (fun h => ?_)) <;> (try (exfalso; first | contradiction | omega | exact h Iff.rfl)) | (with_reducible refine sw_pick (fun h => ?_) (fun h => ?_)) <;> (try (exfalso; first | contradiction | omega | exact h Iff.rfl)) | fail)
      refine sw_appendNV (sz := 1) (b7 := b8) (strC (hd :: xs)) [.string (sB s)] (hd :: xs).length o hN (str_one _) rfl (by omega) ⟨rfl, by omega, by omega⟩ fun o2 ho2 hN2 => ?_
      have hC : strC (hd :: xs) ++ [.string (sB s)] = strC (hd :: (xs ++ [s])) := by unfold strC; simp
      rw [hC] at hN2 ⊢
      repeat' (first | with_reducible refine sw_in (by omega) ?_ | with_reducible (first | refine go1 ?_ | refine sct ?_ | refine scf ?_ | refine sgr ?_) | fail)
      refine sq_round ⟨(i + 1, xs ++ [s], o2), by dsimp only; omega, by dsimp only; rw [hst]; rfl, by dsimp only; rw [show (hd :: (xs ++ [s])).length = (hd :: xs).length + 1 by simp]; exact hN2⟩ (by show l.length - (i + 1) < l.length - i; omega) ?_ ?_
      · show says _ [(1, .pointer (some ⟨b1, 0, none⟩)), (5, nV (hd :: (xs ++ [s])).length o2), (37, .slice (some ⟨b, o', none⟩) l.length c), (38, .int .i64 (l.length : Int)), (39, .int .i64 ((i + 1 : Nat) : Int))]
        rw [show (hd :: (xs ++ [s])).length = (hd :: xs).length + 1 by simp]
        repeat' (first | exact says_nil | refine says_cons rfl ?_ | refine says_cons (by simp) ?_)
      · show Ent _ (oR (nG 9 (strC (hd :: (xs ++ [s])))) ((b1, pts b1 (.cells ([.int .i64 c0, .int .i64 c1, .int .i64 c2, .int .i64 c3, .int .i64 c4, .int .i64 c5, .int .i64 c6, .slice (some ⟨b, o', none⟩) l.length c] : List Value).toArray 26 (0, 0))) :: (0, ro W) :: (K, r) :: F) o2)
        repeat' (first | with_reducible exact Ent.refl _ | with_reducible refine Ent.take_eq ?_ ?_ | rfl | with_reducible refine Ent.oR ?_ | with_reducible refine Ent.trans (oR.drop _ _ _) ?_ | with_reducible refine Ent.trans (Ent.drop _ _) ?_)
  · have hie : i = l.length := by omega
    subst hie
    rw [List.take_length] at hxs
    repeat' (first | with_reducible refine sw_in (by omega) ?_ | with_reducible (first | refine go1 ?_ | refine sct ?_ | refine scf ?_ | refine sgr ?_) | with_reducible refine sw_guard_skip_u ?_ | (with_reducible refine sc_cond (fun h => ?_) (fun h => ?_)) <;> (try (exfalso; first | contradiction | omega | exact h Iff.rfl)) | (with_reducible refine sw_guard_split (fun h => ?_) (fun h => ?_)) <;> (try (exfalso; first | contradiction | omega | exact h Iff.rfl)) | (with_reducible refine sw_pick (fun h => ?_) (fun h => ?_)) <;> (try (exfalso; first | contradiction | omega | exact h Iff.rfl)) | fail)
    · refine sq_ret2 Tryd.results21 ?_
      have hpv : printV [c0, c1, c2, c3, c4, c5, c6] l = .tuple #[.string (sB []), .int .i64 3] := by unfold printV printS; rw [hxs]; simp only; rw [if_pos (by omega)]
      refine ⟨_, ⟨hpv.symm, rfl⟩, ?_⟩
      repeat' (first | with_reducible exact Ent.refl _ | with_reducible refine Ent.take_eq ?_ ?_ | rfl | with_reducible refine Ent.oR ?_ | with_reducible refine Ent.trans (oR.drop _ _ _) ?_ | with_reducible refine Ent.trans (Ent.drop _ _) ?_)
    · have hxe := linesS_each hxs hs
      refine sw_build1 fun b8 => ?_
      refine sw_appendNV (sz := 1) (b7 := b8) (strC (hd :: xs)) [.string (sB [])] (hd :: xs).length o hN (str_one _) rfl (by omega) ⟨rfl, by omega, by omega⟩ fun o2 ho2 hN2 => ?_
      have hC : strC (hd :: xs) ++ [.string (sB [])] = strC (hd :: xs ++ [[]]) := by unfold strC; simp
      rw [hC] at hN2 ⊢
      rw [show (hd :: xs).length + 1 = (hd :: xs ++ [[]]).length by simp] at hN2 ⊢
      obtain ⟨b9, c9, t9, rfl⟩ : ∃ b9 c9 t9, o2 = some (b9, c9, t9) := by
        cases o2 with
        | none => exact absurd rfl ho2
        | some q => exact ⟨q.1, q.2.1, q.2.2, rfl⟩
      have hsz := sum_each 33554432 (hd :: xs ++ [[]]) (fun x hx => by
        simp only [List.cons_append, List.mem_cons, List.mem_append, List.not_mem_nil, or_false] at hx
        rcases hx with rfl | hx | rfl
        · omega
        · exact hxe x hx
        · simp)
      have hjl := join_len 10 (hd :: xs ++ [[]])
      have hcl2 : (hd :: xs ++ [[]]).length = xs.length + 2 := by simp
      rw [hcl2] at hsz
      have hJn := joinR_ok b9 _ _ (hd :: xs ++ [[]]) 10 (RdT.of_n hN2 b9 c9 t9 rfl) (by omega) (by omega)
      have hpv : printV [c0, c1, c2, c3, c4, c5, c6] l = .tuple #[.string (sB (Lib.join (hd :: xs ++ [[]]) [10])), .int .i64 0] := by
        rw [hhd]; unfold printV printS; rw [hxs]; simp only; rw [if_neg (by omega)]
      rw [nG_some]
      repeat' (first | with_reducible (first | refine go1 ?_ | refine sct ?_ | refine scf ?_ | refine sgr ?_) | ((with_reducible refine sw_callf hJn ?_); rintro _ _ ⟨rfl, rfl⟩) | fail)
      refine sq_ret2 Tryd.results21 ?_
      refine ⟨_, ⟨hpv.symm, rfl⟩, ?_⟩
      repeat' (first | with_reducible exact Ent.refl _ | with_reducible refine Ent.take_eq ?_ ?_ | rfl | with_reducible refine Ent.oR ?_ | with_reducible refine Ent.trans (oR.drop _ _ _) ?_ | with_reducible refine Ent.trans (Ent.drop _ _) ?_)
end Go.Gsl

namespace Go.Gsl
set_option linter.unusedVariables false
open Go.Proofs

section
variable {P : Program} {ops : List Oper} {Q : Cont} {n : Nat} {w0 : World} {rest : List Oper} {e : Env} {Rs F : List Res}
theorem run_call_fv {x : Operand} {f : FuncId} {args : List Operand} {vs : List Value} {ts : Array TypeId} {o : Oper} (ho : o.op = .call { callee := .value x, args := args.toArray, argTypes := ts }) [hx : Ev n e x (.func (.func f) #[] #[])] (ha : args.map (act n e).eval = vs) (w : World) :
    (execOp (act n e).eval o).run P w = (callFunc f vs.toArray).run P w := by
  unfold execOp
  rw [ho]
  simp [resolve, hx.out, Deferred.ofValue, invoke, ha]
/-- a function's value is called -/
theorem sw_callV {d : Nat} {x : Operand} {f : FuncId} {args : List Operand} {ts : Array TypeId} {ty : TypeId} {pos : String} {after : Array Edge} {vs : List Value} {ks : List Nat} {rs : List HProp} {Post : List Res → Value → List Res → Prop}
    (hs : Spec P f vs ks rs Post) [hx : Ev n e x (.func (.func f) #[] #[])] [hb : Body P f] [ha : EvL n e args vs] [hsp : Split Rs ks rs F]
    (k : ∀ v Rs', Post F v Rs' → SW P ops Q n w0 rest ((d, v) :: e) Rs') :
    SW P ops Q n w0 ({ dst := some d, op := .call { callee := .value x, args := args.toArray, argTypes := ts }, type := ty, pos := pos, after := after, guard := none } :: rest) e Rs := by
  intro w hw
  refine wpM_enter rfl (by rw [run_call_fv rfl ha.out, hb.out]) (hs w0 F w (hw.ent hsp.ent)) ?_
  rintro x w' ⟨v, Rs', rfl, hp, hw'⟩
  refine ⟨v, rfl, ?_⟩
  rw [actM_put]
  exact k v Rs' hp w' hw'
end

set_option maxHeartbeats 4000000 in
theorem lEqualF_ok (K : Nat) (r : HProp) (vx vy : Value) (x y : List Act) (hx : RdAs r vx x) (hy : RdAs r vy y) (hl : x.length ≤ 1073741824) :
    Spec Tryd.prog 37 [vx, vy, .func (.func 38) #[] #[]] [K] [r]
    fun F v Rs' => v = .bool (decide (x = y)) ∧ Rs' = (K, r) :: F := by
  obtain ⟨a, c, av, rfl, hav, ha, hra, hka, hla⟩ := hx
  obtain ⟨a', c', av', rfl, hav', ha', hra', hka', hla'⟩ := hy
  refine spec_of Tryd.func37 rfl Tryd.ntmps37 rfl ?_
  intro w0 F
  repeat' (first | with_reducible (first | refine go1 ?_ | refine sct ?_ | refine scf ?_ | refine sgr ?_) | with_reducible refine sw_guard_skip_u ?_ | (with_reducible refine sc_cond (fun h => ?_) (fun h => ?_)) <;> (try (exfalso; first | contradiction | omega | exact h Iff.rfl)) | (with_reducible refine sw_guard_split (fun h => ?_) (fun h => ?_)) <;> (try (exfalso; first | contradiction | omega | exact h Iff.rfl)) | (with_reducible refine sw_pick (fun h => ?_) (fun h => ?_)) <;> (try (exfalso; first | contradiction | omega | exact h Iff.rfl)) | fail)
  · refine sq_ret1 Tryd.results37 ?_
    refine ⟨_, ⟨by rw [decide_eq_false]; rintro rfl; exact h rfl, rfl⟩, ?_⟩
    repeat' (first | with_reducible exact Ent.refl _ | with_reducible refine Ent.take_eq ?_ ?_ | rfl | with_reducible refine Ent.oR ?_ | with_reducible refine Ent.trans (oR.drop _ _ _) ?_ | with_reducible refine Ent.trans (Ent.drop _ _) ?_)
  have hlk : x.length = y.length := by omega
  refine sc_loop (α := { i : Nat // i ≤ x.length ∧ x.take i = y.take i }) (fun i => [(0, .slice a x.length c), (1, .slice a' y.length c'), (2, .func (.func 38) #[] #[]), (6, .bool false), (15, .slice a x.length c), (16, .int .i64 (x.length : Int)), (17, .int .i64 (i.1 : Int))])
    (fun _ => (K, r) :: F) (fun i => x.length - i.1) ⟨0, Nat.zero_le _, rfl⟩ ?_ ?_ ?_
  · repeat' (first | exact says_nil | refine says_cons rfl ?_ | refine says_cons (by simp) ?_)
  · repeat' (first | with_reducible exact Ent.refl _ | with_reducible refine Ent.take_eq ?_ ?_ | rfl | with_reducible refine Ent.oR ?_ | with_reducible refine Ent.trans (oR.drop _ _ _) ?_ | with_reducible refine Ent.trans (Ent.drop _ _) ?_)
  rintro ⟨i, hi, hik⟩ e
  simp only [List.cons_append, List.nil_append]
  by_cases hil : i < x.length
  · obtain ⟨b, o, rfl⟩ := ha (by omega)
    obtain ⟨b', o', rfl⟩ := ha' (by omega)
    obtain ⟨kv, hm1, hv1⟩ := avC_part hav hil act00
    obtain ⟨kv', hm2, hv2⟩ := avC_part hav' (show i < y.length by omega) act00
    have hSA := sSameAct_ok K r (x.getD i act00) (y.getD i act00) kv kv' (hka _ hm1) (hka' _ hm2) (hla _ hm1)
    obtain ⟨ka, kc, hkv, _, _⟩ := hka _ hm1
    obtain ⟨ka', kc', hkv', _, _⟩ := hka' _ hm2
    simp only at hkv hkv'
    subst hkv hkv'
    have hne := acts_ne (a := x) (b := y) (i := i) act00
    have hst := take_eq_step act00 hil (show i < y.length by omega) hik
    generalize x.getD i act00 = u at *
    generalize y.getD i act00 = u' at *
    have hul : (actC u (.slice ka u.k.length kc)).length = 9 := rfl
    have hul' : (actC u' (.slice ka' u'.k.length kc')).length = 9 := rfl
    repeat' (first | with_reducible refine sw_in (by omega) ?_ | with_reducible (first | refine go1 ?_ | refine sct ?_ | refine scf ?_ | refine sgr ?_) | with_reducible refine sw_indexN i ⟨rfl, by omega⟩ ?_ | with_reducible refine sw_load_aggR K (i * 9) (actC u (.slice ka u.k.length kc)) hra hul hv1 (by omega) ?_ | with_reducible refine sw_load_aggR K (i * 9) (actC u' (.slice ka' u'.k.length kc')) hra' hul' hv2 (by omega) ?_ | with_reducible refine sw_alloc fun b7 => ?_ | with_reducible refine sw_store_agg ?_ | ((with_reducible refine sw_callV hSA ?_); rintro _ _ ⟨rfl, rfl⟩) | with_reducible refine sw_guard_skip_u ?_ | (with_reducible refine sc_cond (fun h => ?_) (fun h => ?_)) <;> (try (exfalso; first | contradiction | omega | exact h Iff.rfl)) | (with_reducible refine sw_guard_split (fun h => ?_) (fun h => ?_)) <;> (try (exfalso; first | contradiction | omega | exact h Iff.rfl)) | (with_reducible refine sw_pick (fun h => ?_) (fun h => ?_)) <;> (try (exfalso; first | contradiction | omega | exact h Iff.rfl)) | fail)
    · refine sq_ret1 Tryd.results37 ?_
      refine ⟨_, ⟨by rw [decide_eq_false (hne (by assumption))], rfl⟩, ?_⟩
      repeat' (first | with_reducible exact Ent.refl _ | with_reducible refine Ent.take_eq ?_ ?_ | rfl | with_reducible refine Ent.oR ?_ | with_reducible refine Ent.trans (oR.drop _ _ _) ?_ | with_reducible refine Ent.trans (Ent.drop _ _) ?_)
    · refine sq_round ⟨i + 1, by omega, hst (Classical.not_not.1 (by assumption))⟩ (by show x.length - (i + 1) < x.length - i; omega) ?_ ?_
      · repeat' (first | exact says_nil | refine says_cons rfl ?_ | refine says_cons (by simp) ?_)
      · repeat' (first | with_reducible exact Ent.refl _ | with_reducible refine Ent.take_eq ?_ ?_ | rfl | with_reducible refine Ent.oR ?_ | with_reducible refine Ent.trans (oR.drop _ _ _) ?_ | with_reducible refine Ent.trans (Ent.drop _ _) ?_)
  · repeat' (first | with_reducible refine sw_in (by omega) ?_ | with_reducible (first | refine go1 ?_ | refine sct ?_ | refine scf ?_ | refine sgr ?_) | (with_reducible refine sc_cond (fun h => ?_) (fun h => ?_)) <;> (try (exfalso; first | contradiction | omega | exact h Iff.rfl)) | fail)
    refine sq_ret1 Tryd.results37 ?_
    refine ⟨_, ⟨?_, rfl⟩, ?_⟩
    · rw [List.take_of_length_le (by omega), List.take_of_length_le (by omega)] at hik
      rw [decide_eq_true hik]
    · repeat' (first | with_reducible exact Ent.refl _ | with_reducible refine Ent.take_eq ?_ ?_ | rfl | with_reducible refine Ent.oR ?_ | with_reducible refine Ent.trans (oR.drop _ _ _) ?_ | with_reducible refine Ent.trans (Ent.drop _ _) ?_)

set_option maxHeartbeats 4000000 in
theorem sSame_ok (K : Nat) (r : HProp) (c0 c1 c2 c3 c4 c5 c6 d0 d1 d2 d3 d4 d5 d6 : Int) (vx vy : Value) (x y : List Act) (hx : RdAs r vx x) (hy : RdAs r vy y) (hl : x.length ≤ 1073741824) :
    Spec Tryd.prog 18 [.agg ([.int .i64 c0, .int .i64 c1, .int .i64 c2, .int .i64 c3, .int .i64 c4, .int .i64 c5, .int .i64 c6, vx] : List Value).toArray, .agg ([.int .i64 d0, .int .i64 d1, .int .i64 d2, .int .i64 d3, .int .i64 d4, .int .i64 d5, .int .i64 d6, vy] : List Value).toArray] [K] [r]
    fun F v Rs' => v = .bool (decide ([c0, c1, c2, c3, c4, c5, c6] = [d0, d1, d2, d3, d4, d5, d6]) && decide (x = y)) ∧ Rs' = (K, r) :: F := by
  have hE := lEqualF_ok K r vx vy x y hx hy hl
  obtain ⟨a, c, av, rfl, _⟩ := hx
  obtain ⟨a', c', av', rfl, _⟩ := hy
  have hcl : ([.int .i64 c0, .int .i64 c1, .int .i64 c2, .int .i64 c3, .int .i64 c4, .int .i64 c5, .int .i64 c6] : List Value).length = 7 := rfl
  have hcl' : ([.int .i64 d0, .int .i64 d1, .int .i64 d2, .int .i64 d3, .int .i64 d4, .int .i64 d5, .int .i64 d6] : List Value).length = 7 := rfl
  have rd0 : ∀ (b : Nat) (cs : List Value), Reads (pts b (.cells cs.toArray 26 (0, 0))) (some ⟨b, 0, none⟩) cs := fun b cs => reads_pts fun j v hj => by rw [Nat.zero_add]; exact hj
  refine spec_of Tryd.func18 rfl Tryd.ntmps18 rfl ?_
  intro w0 F
  repeat' (first | with_reducible (first | refine go1 ?_ | refine sct ?_ | refine scf ?_ | refine sgr ?_) | fail)
  refine sw_box fun b2 => ?_
  repeat' (first | with_reducible (first | refine go1 ?_ | refine sct ?_ | refine scf ?_ | refine sgr ?_) | fail)
  refine sw_box fun b3 => ?_
  repeat' (first | with_reducible (first | refine go1 ?_ | refine sct ?_ | refine scf ?_ | refine sgr ?_) | with_reducible refine sw_load_aggR b2 0 [.int .i64 c0, .int .i64 c1, .int .i64 c2, .int .i64 c3, .int .i64 c4, .int .i64 c5, .int .i64 c6] (rd0 b2 _) hcl rfl rfl ?_ | with_reducible refine sw_load_aggR b3 0 [.int .i64 d0, .int .i64 d1, .int .i64 d2, .int .i64 d3, .int .i64 d4, .int .i64 d5, .int .i64 d6] (rd0 b3 _) hcl' rfl rfl ?_ | ((with_reducible refine sw_callf hE ?_); rintro _ _ ⟨rfl, rfl⟩) | with_reducible refine sw_guard_skip_u ?_ | (with_reducible refine sc_cond (fun h => ?_) (fun h => ?_)) <;> (try (exfalso; first | contradiction | omega | exact h Iff.rfl)) | (with_reducible refine sw_guard_split (fun h => ?_) (fun h => ?_)) <;> (try (exfalso; first | contradiction | omega | exact h Iff.rfl)) | (with_reducible refine sw_pick (fun h => ?_) (fun h => ?_)) <;> (try (exfalso; first | contradiction | omega | exact h Iff.rfl)) | fail)
  all_goals (refine sq_ret1 Tryd.results18 ?_)
  · refine ⟨_, ⟨by rw [decide_eq_true (p := [c0, c1, c2, c3, c4, c5, c6] = _) (by assumption), Bool.true_and], rfl⟩, ?_⟩
    repeat' (first | with_reducible exact Ent.refl _ | with_reducible refine Ent.take_eq ?_ ?_ | rfl | with_reducible refine Ent.oR ?_ | with_reducible refine Ent.trans (oR.drop _ _ _) ?_ | with_reducible refine Ent.trans (Ent.drop _ _) ?_)
  · refine ⟨_, ⟨by rw [decide_eq_false (p := [c0, c1, c2, c3, c4, c5, c6] = _) (by assumption)]; rfl, rfl⟩, ?_⟩
    repeat' (first | with_reducible exact Ent.refl _ | with_reducible refine Ent.take_eq ?_ ?_ | rfl | with_reducible refine Ent.oR ?_ | with_reducible refine Ent.trans (oR.drop _ _ _) ?_ | with_reducible refine Ent.trans (Ent.drop _ _) ?_)
end Go.Gsl
