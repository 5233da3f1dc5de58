/- RecoverPlans: which parts fit. -/
import Derived.Test.YtemediifhpgdgaaGreatRv3Q
import Derived.Test.YtemediifhpgdgaaGreatRvkQ
import Derived.Test.YtemediifhpgdgaaGreatXD
import Derived.Test.YtemediifhpgdgaaGreatGE
namespace Go.Gsl
set_option linter.unusedVariables false
open Go.Proofs

/-! ### layouts compared -/
section
variable (w : World) (d : Nat)
theorem eqArea (a b a' b' : Int) : (Op.equalIn (d + 2) 23 (.agg #[.int .i64 a, .int .i64 b]) (.agg #[.int .i64 a', .int .i64 b'])).run Tryz.prog w = .ok (a == a' && (b == b' && true)) w := by
  rw [run_equalIn_struct w (d + 1) _ _ _ (by rw [fieldsOf_und Tryz.underlying23]; exact Tryz.underlying23) (by kernel_rfl), fieldsOf_und Tryz.underlying23]
  refine eqF_int w (by decide) Tryz.underlying3 rfl rfl ?_
  refine eqF_int w (by decide) Tryz.underlying3 rfl rfl ?_
  exact eqF_nil w _ _ _
theorem eqAreas (a b c e a' b' c' e' : Int) : (Op.equalIn (d + 3) 24 (.agg #[.int .i64 a, .int .i64 b, .int .i64 c, .int .i64 e]) (.agg #[.int .i64 a', .int .i64 b', .int .i64 c', .int .i64 e'])).run Tryz.prog w = .ok ((a == a' && (b == b' && true)) && ((c == c' && (e == e' && true)) && true)) w := by
  obtain ⟨i, hi⟩ : ∃ i, (Tryz.prog).info? 23 = some i := info_of_underlying Tryz.underlying23
  rw [run_equalIn_array w (d + 2) _ _ Tryz.underlying24 hi]
  have hc : (Tryz.prog).cellsOf 23 = 2 := by kernel_rfl
  rw [hc]
  refine eqI_step w (part_agg' w (ys := #[.int .i64 a, .int .i64 b]) (by kernel_rfl)) (part_agg' w (ys := #[.int .i64 a', .int .i64 b']) (by kernel_rfl)) (eqArea w d a b a' b') ?_
  refine eqI_step w (part_agg' w (ys := #[.int .i64 c, .int .i64 e]) (by kernel_rfl)) (part_agg' w (ys := #[.int .i64 c', .int .i64 e']) (by kernel_rfl)) (eqArea w d c e c' e') ?_
  exact eqI_nil w _ _ _ _ _
theorem eqLay (p q r a b c e p' q' r' a' b' c' e' : Int) : (Op.equalIn (d + 4) 26 (.agg #[.int .i64 p, .int .i64 q, .int .i64 r, .int .i64 a, .int .i64 b, .int .i64 c, .int .i64 e]) (.agg #[.int .i64 p', .int .i64 q', .int .i64 r', .int .i64 a', .int .i64 b', .int .i64 c', .int .i64 e'])).run Tryz.prog w =
    .ok (p == p' && (q == q' && (r == r' && (((a == a' && (b == b' && true)) && ((c == c' && (e == e' && true)) && true)) && true)))) w := by
  rw [run_equalIn_struct w (d + 3) _ _ _ (by rw [fieldsOf_und Tryz.underlying26]; exact Tryz.underlying26) (by kernel_rfl), fieldsOf_und Tryz.underlying26]
  refine eqF_int w (by decide) Tryz.underlying3 rfl rfl ?_
  refine eqF_int w (by decide) Tryz.underlying3 rfl rfl ?_
  refine eqF_int w (by decide) Tryz.underlying3 rfl rfl ?_
  have h1 : (part 24 #[.int .i64 p, .int .i64 q, .int .i64 r, .int .i64 a, .int .i64 b, .int .i64 c, .int .i64 e] 3).run Tryz.prog w = .ok (.agg #[.int .i64 a, .int .i64 b, .int .i64 c, .int .i64 e]) w := part_agg' w (by kernel_rfl)
  have h2 : (part 24 #[.int .i64 p', .int .i64 q', .int .i64 r', .int .i64 a', .int .i64 b', .int .i64 c', .int .i64 e'] 3).run Tryz.prog w = .ok (.agg #[.int .i64 a', .int .i64 b', .int .i64 c', .int .i64 e']) w := part_agg' w (by kernel_rfl)
  exact eqF_step w (by decide) h1 h2 (eqAreas w d _ _ _ _ _ _ _ _) (eqF_nil w _ _ _)
end
instance (p q r a b c e p' q' r' a' b' c' e' : Int) : EqAgg Tryz.prog 26 [.int .i64 p, .int .i64 q, .int .i64 r, .int .i64 a, .int .i64 b, .int .i64 c, .int .i64 e] [.int .i64 p', .int .i64 q', .int .i64 r', .int .i64 a', .int .i64 b', .int .i64 c', .int .i64 e']
    (p == p' && (q == q' && (r == r' && (((a == a' && (b == b' && true)) && ((c == c' && (e == e' && true)) && true)) && true)))) := ⟨fun w => eqLay w 9996 p q r a b c e p' q' r' a' b' c' e', by kernel_rfl⟩

/-! ### what is planned fits -/
theorem plan_fits {n log many : Int} (h : ¬ (log < 2 ∨ many < 1 ∨ 4096 < many ∨ 16384 < n ∨ n < log ∨ n < 2 + log + 2 * many * 12)) : checkE 0 2 log (2 + log) many (2 + log + many * 12) many n = 0 := by
  have ha : ∀ f, 0 ≤ f → f + many * 12 ≤ n → areaE f many n = 0 := fun f h1 h2 => by unfold areaE; rw [if_neg (by omega)]
  have h1 := ha (2 + log) (by omega) (by omega)
  have h2 := ha (2 + log + many * 12) (by omega) (by omega)
  refine checkE_good (by rw [h1, h2]; omega) fun i hi => ?_
  match i, hi with
  | 0, _ => exact ⟨⟨by simp [partsL], by simp [partsL]; omega, by simp [partsL]; omega⟩, fun k hk => by omega⟩
  | 1, _ => exact ⟨⟨by simp [partsL], by simp [partsL]; omega, by simp [partsL]; omega⟩, fun k hk => by
      match k, hk with
      | 0, _ => simp [partsL, hitP]⟩
  | 2, _ => exact ⟨⟨by simp [partsL]; omega, by simp [partsL]; omega, by simp [partsL]; omega⟩, fun k hk => by
      match k, hk with
      | 0, _ => simp [partsL, hitP]; omega
      | 1, _ => simp [partsL, hitP]⟩
  | 3, _ => exact ⟨⟨by simp [partsL]; omega, by simp [partsL]; omega, by simp [partsL]; omega⟩, fun k hk => by
      match k, hk with
      | 0, _ => simp [partsL, hitP]; omega
      | 1, _ => simp [partsL, hitP]; omega
      | 2, _ => simp [partsL, hitP]⟩

instance (priority := 2000) eqLaySame (p q r a b c e : Int) : EqAgg Tryz.prog 26 [.int .i64 p, .int .i64 q, .int .i64 r, .int .i64 a, .int .i64 b, .int .i64 c, .int .i64 e] [.int .i64 p, .int .i64 q, .int .i64 r, .int .i64 a, .int .i64 b, .int .i64 c, .int .i64 e] true :=
  ⟨fun w => by have := eqLay w 9996 p q r a b c e p q r a b c e; simp only [beq_self_eq_true, Bool.and_true] at this; exact this, by kernel_rfl⟩
set_option maxHeartbeats 4000000 in
theorem l21Plans_ok (n log many M L S f0 c0 f1 c1 : Int) (hn : I64 n) (hlog : I64 log) (hmany : I64 many) (hM : I64 M) (hL : I64 L) (hS : I64 S) (hf0 : I64 f0) (hc0 : I64 c0) (hf1 : I64 f1) (hc1 : I64 c1) :
    Spec Tryz.prog 3 [.int .i64 n, .int .i64 log, .agg ([.int .i64 many, .int .i64 M, .int .i64 L, .int .i64 S, .int .i64 f0, .int .i64 c0, .int .i64 f1, .int .i64 c1] : List Value).toArray] [] [] fun F v Rs' => v = .bool true ∧ Rs' = F := by
  have rvP := rvPlan_ok n log many hn hlog hmany
  have q21P := q21Plan_ok n log many hn hlog hmany
  unfold planV at rvP q21P
  by_cases hP : log < 2 ∨ many < 1 ∨ 4096 < many ∨ 16384 < n ∨ n < log ∨ n < 2 + log + 2 * many * 12
  · rw [if_pos hP] at rvP q21P
    refine spec_of Tryz.func3 rfl Tryz.ntmps3 rfl ?_
    intro w0 F
    repeat' (first | with_reducible (first | refine go1 ?_ | refine sct ?_ | refine scf ?_ | refine sgr ?_) | with_reducible refine sw_box fun b5 => ?_ | fail)
    refine sc_lin ([(b5, pts b5 (.cells [.int .i64 many, .int .i64 M, .int .i64 L, .int .i64 S, .int .i64 f0, .int .i64 c0, .int .i64 f1, .int .i64 c1].toArray 28 (0, 0)))]) (llp 0 (llp 1 (llp 2 (llp 3 (lle 4 (llp 5 (lle 6 ll0))))))) (by kernel_rfl) rfl (by kernel_rfl) ?_
    all_goals (iterate 3 refine go1l ?_)
    all_goals refine sl_take (h := runop_loadPart [.int .i64 M, .int .i64 L, .int .i64 S, .int .i64 f0, .int .i64 c0, .int .i64 f1, .int .i64 c1] (by with_unfolding_all rfl) (by with_unfolding_all rfl)) ?_
    all_goals refine sl_eff ?_
    all_goals (repeat' (first | with_reducible (first | refine go1 ?_ | refine sct ?_ | refine scf ?_ | refine sgr ?_) | with_reducible refine sw_alloc fun b8 => ?_ | with_reducible refine sw_store_agg ?_ | with_reducible refine sl_back ?_ | fail))
    all_goals refine go1l ?_
    all_goals refine sl_eff ?_
    all_goals (repeat' (first | with_reducible (first | refine go1 ?_ | refine sct ?_ | refine scf ?_ | refine sgr ?_) | with_reducible refine sw_alloc fun b8 => ?_ | with_reducible refine sw_store_agg ?_ | with_reducible refine sl_back ?_ | fail))
    all_goals refine sl_done ?_
    repeat' (first | with_reducible (first | refine go1 ?_ | refine sct ?_ | refine scf ?_ | refine sgr ?_) | ((with_reducible refine sw_callf rvP ?_); rintro _ _ ⟨rfl, rfl⟩) | with_reducible refine sw_alloc fun b9 => ?_ | with_reducible refine sw_store_agg ?_ | fail)
    repeat' (first | with_reducible (first | refine go1 ?_ | refine sct ?_ | refine scf ?_ | refine sgr ?_) | ((with_reducible refine sw_callf q21P ?_); rintro _ _ ⟨rfl, rfl⟩) | with_reducible refine sw_alloc fun b11 => ?_ | with_reducible refine sw_store_agg ?_ | fail)
    refine sc_lin ([(b8, pts b8 (.cells [.int .i64 M, .int .i64 L, .int .i64 S, .int .i64 f0, .int .i64 c0, .int .i64 f1, .int .i64 c1].toArray 26 (0, 0))), (b9, pts b9 (.cells [.int .i64 0, .int .i64 0, .int .i64 0, .int .i64 0, .int .i64 0, .int .i64 0, .int .i64 0].toArray 26 (0, 0))), (b11, pts b11 (.cells [.int .i64 0, .int .i64 0, .int .i64 0, .int .i64 0, .int .i64 0, .int .i64 0, .int .i64 0].toArray 26 (0, 0)))]) (lle 0 (llp 1 (llp 2 (llp 3 (llp 4 (llp 5 (llp 6 (llp 7 (llp 8 (llp 9 (llp 10 (llp 11 (llp 12 (llp 13 (llp 14 (llp 16 (llp 17 (lle 15 (lle 18 (llp 19 (llp 20 ll0))))))))))))))))))))) (by kernel_rfl) rfl (by kernel_rfl) ?_
    all_goals refine sl_eff ?_
    all_goals (repeat' (first | with_reducible (first | refine go1 ?_ | refine sct ?_ | refine scf ?_ | refine sgr ?_) | ((with_reducible refine sw_callf live_ok ?_); rintro _ _ ⟨rfl, rfl⟩) | ((with_reducible refine sw_callf (rvCheck_ok M L S f0 c0 f1 c1 n hM hL hS hf0 hc0 hf1 hc1 hn) ?_); rintro _ _ ⟨rfl, rfl⟩) | ((with_reducible refine sw_callf (q21Check_ok M L S f0 c0 f1 c1 n hM hL hS hf0 hc0 hf1 hc1 hn) ?_); rintro _ _ ⟨rfl, rfl⟩) | with_reducible refine sl_back ?_ | (with_reducible refine sc_cond (fun h => ?_) (fun h => ?_)) <;> (try (exfalso; first | contradiction | omega | exact h Iff.rfl)) | fail))
    all_goals (iterate 2 refine go1l ?_)
    all_goals (first | refine go1l ?_ | ((refine sl_split 33 (fun h => ?_) (fun h => ?_)) <;> (try (exfalso; first | contradiction | omega | exact h Iff.rfl)) <;> refine go1l ?_))
    all_goals (first | refine go1l ?_ | ((refine sl_split 33 (fun h => ?_) (fun h => ?_)) <;> (try (exfalso; first | contradiction | omega | exact h Iff.rfl)) <;> refine go1l ?_))
    all_goals (first | refine go1l ?_ | ((refine sl_split 33 (fun h => ?_) (fun h => ?_)) <;> (try (exfalso; first | contradiction | omega | exact h Iff.rfl)) <;> refine go1l ?_))
    all_goals (first | refine go1l ?_ | ((refine sl_split 33 (fun h => ?_) (fun h => ?_)) <;> (try (exfalso; first | contradiction | omega | exact h Iff.rfl)) <;> refine go1l ?_))
    all_goals refine go1l ?_
    all_goals (first | refine go1l ?_ | ((refine sl_split 38 (fun h => ?_) (fun h => ?_)) <;> (try (exfalso; first | contradiction | omega | exact h Iff.rfl)) <;> refine go1l ?_))
    all_goals (first | refine go1l ?_ | ((refine sl_split 38 (fun h => ?_) (fun h => ?_)) <;> (try (exfalso; first | contradiction | omega | exact h Iff.rfl)) <;> refine go1l ?_))
    all_goals (first | refine go1l ?_ | ((refine sl_split 38 (fun h => ?_) (fun h => ?_)) <;> (try (exfalso; first | contradiction | omega | exact h Iff.rfl)) <;> refine go1l ?_))
    all_goals (first | refine go1l ?_ | ((refine sl_split 38 (fun h => ?_) (fun h => ?_)) <;> (try (exfalso; first | contradiction | omega | exact h Iff.rfl)) <;> refine go1l ?_))
    all_goals refine go1l ?_
    all_goals (first | refine go1l ?_ | ((refine sl_split 43 (fun h => ?_) (fun h => ?_)) <;> (try (exfalso; first | contradiction | omega | exact h Iff.rfl)) <;> refine go1l ?_))
    all_goals (first | refine go1l ?_ | ((refine sl_split 43 (fun h => ?_) (fun h => ?_)) <;> (try (exfalso; first | contradiction | omega | exact h Iff.rfl)) <;> refine go1l ?_))
    all_goals (first | refine go1l ?_ | ((refine sl_split 43 (fun h => ?_) (fun h => ?_)) <;> (try (exfalso; first | contradiction | omega | exact h Iff.rfl)) <;> refine go1l ?_))
    all_goals (first | refine go1l ?_ | ((refine sl_split 43 (fun h => ?_) (fun h => ?_)) <;> (try (exfalso; first | contradiction | omega | exact h Iff.rfl)) <;> refine go1l ?_))
    all_goals refine sl_eff ?_
    all_goals (repeat' (first | with_reducible (first | refine go1 ?_ | refine sct ?_ | refine scf ?_ | refine sgr ?_) | ((with_reducible refine sw_callf live_ok ?_); rintro _ _ ⟨rfl, rfl⟩) | ((with_reducible refine sw_callf (rvCheck_ok M L S f0 c0 f1 c1 n hM hL hS hf0 hc0 hf1 hc1 hn) ?_); rintro _ _ ⟨rfl, rfl⟩) | ((with_reducible refine sw_callf (q21Check_ok M L S f0 c0 f1 c1 n hM hL hS hf0 hc0 hf1 hc1 hn) ?_); rintro _ _ ⟨rfl, rfl⟩) | with_reducible refine sl_back ?_ | (with_reducible refine sc_cond (fun h => ?_) (fun h => ?_)) <;> (try (exfalso; first | contradiction | omega | exact h Iff.rfl)) | fail))
    all_goals refine sl_eff ?_
    all_goals (repeat' (first | with_reducible (first | refine go1 ?_ | refine sct ?_ | refine scf ?_ | refine sgr ?_) | ((with_reducible refine sw_callf live_ok ?_); rintro _ _ ⟨rfl, rfl⟩) | ((with_reducible refine sw_callf (rvCheck_ok M L S f0 c0 f1 c1 n hM hL hS hf0 hc0 hf1 hc1 hn) ?_); rintro _ _ ⟨rfl, rfl⟩) | ((with_reducible refine sw_callf (q21Check_ok M L S f0 c0 f1 c1 n hM hL hS hf0 hc0 hf1 hc1 hn) ?_); rintro _ _ ⟨rfl, rfl⟩) | with_reducible refine sl_back ?_ | (with_reducible refine sc_cond (fun h => ?_) (fun h => ?_)) <;> (try (exfalso; first | contradiction | omega | exact h Iff.rfl)) | fail))
    all_goals (first | refine go1l ?_ | ((refine sl_split 43 (fun h => ?_) (fun h => ?_)) <;> (try (exfalso; first | contradiction | omega | exact h Iff.rfl)) <;> refine go1l ?_))
    all_goals (first | refine go1l ?_ | ((refine sl_split 43 (fun h => ?_) (fun h => ?_)) <;> (try (exfalso; first | contradiction | omega | exact h Iff.rfl)) <;> refine go1l ?_))
    all_goals refine sl_done ?_
    repeat' (first | with_reducible (first | refine go1 ?_ | refine sct ?_ | refine scf ?_ | refine sgr ?_) | (with_reducible refine sc_cond (fun h => ?_) (fun h => ?_)) <;> (try (exfalso; first | contradiction | omega | exact h Iff.rfl)) | (with_reducible refine sw_guard_split (fun h => ?_) (fun h => ?_)) <;> (try (exfalso; first | contradiction | omega | exact h Iff.rfl)) | (with_reducible refine sw_pick (fun h => ?_) (fun h => ?_)) <;> (try (exfalso; first | contradiction | omega | exact h Iff.rfl)) | fail)
    refine sq_ret1 Tryz.results3 ?_
    refine ⟨_, ⟨rfl, rfl⟩, ?_⟩
    repeat' (first | with_reducible exact Ent.refl _ | with_reducible refine Ent.take_eq ?_ ?_ | rfl | with_reducible refine Ent.trans (Ent.drop _ _) ?_)
  · rw [if_neg hP] at rvP q21P
    have hC := rvCheck_ok 0 2 log (2 + log) many (2 + log + many * 12) many n (by unfold I64; omega) (by unfold I64; omega) hlog (by unfold I64; omega) hmany (by unfold I64; omega) hmany hn
    rw [plan_fits hP] at hC
    refine spec_of Tryz.func3 rfl Tryz.ntmps3 rfl ?_
    intro w0 F
    repeat' (first | with_reducible (first | refine go1 ?_ | refine sct ?_ | refine scf ?_ | refine sgr ?_) | with_reducible refine sw_box fun b5 => ?_ | fail)
    refine sc_lin ([(b5, pts b5 (.cells [.int .i64 many, .int .i64 M, .int .i64 L, .int .i64 S, .int .i64 f0, .int .i64 c0, .int .i64 f1, .int .i64 c1].toArray 28 (0, 0)))]) (llp 0 (llp 1 (llp 2 (llp 3 (lle 4 (llp 5 (lle 6 ll0))))))) (by kernel_rfl) rfl (by kernel_rfl) ?_
    all_goals (iterate 3 refine go1l ?_)
    all_goals refine sl_take (h := runop_loadPart [.int .i64 M, .int .i64 L, .int .i64 S, .int .i64 f0, .int .i64 c0, .int .i64 f1, .int .i64 c1] (by with_unfolding_all rfl) (by with_unfolding_all rfl)) ?_
    all_goals refine sl_eff ?_
    all_goals (repeat' (first | with_reducible (first | refine go1 ?_ | refine sct ?_ | refine scf ?_ | refine sgr ?_) | with_reducible refine sw_alloc fun b8 => ?_ | with_reducible refine sw_store_agg ?_ | with_reducible refine sl_back ?_ | fail))
    all_goals refine go1l ?_
    all_goals refine sl_eff ?_
    all_goals (repeat' (first | with_reducible (first | refine go1 ?_ | refine sct ?_ | refine scf ?_ | refine sgr ?_) | with_reducible refine sw_alloc fun b8 => ?_ | with_reducible refine sw_store_agg ?_ | with_reducible refine sl_back ?_ | fail))
    all_goals refine sl_done ?_
    repeat' (first | with_reducible (first | refine go1 ?_ | refine sct ?_ | refine scf ?_ | refine sgr ?_) | ((with_reducible refine sw_callf rvP ?_); rintro _ _ ⟨rfl, rfl⟩) | with_reducible refine sw_alloc fun b9 => ?_ | with_reducible refine sw_store_agg ?_ | fail)
    repeat' (first | with_reducible (first | refine go1 ?_ | refine sct ?_ | refine scf ?_ | refine sgr ?_) | ((with_reducible refine sw_callf q21P ?_); rintro _ _ ⟨rfl, rfl⟩) | with_reducible refine sw_alloc fun b11 => ?_ | with_reducible refine sw_store_agg ?_ | fail)
    refine sc_lin ([(b8, pts b8 (.cells [.int .i64 M, .int .i64 L, .int .i64 S, .int .i64 f0, .int .i64 c0, .int .i64 f1, .int .i64 c1].toArray 26 (0, 0))), (b9, pts b9 (.cells [.int .i64 0, .int .i64 2, .int .i64 log, .int .i64 (2 + log), .int .i64 many, .int .i64 (2 + log + many * 12), .int .i64 many].toArray 26 (0, 0))), (b11, pts b11 (.cells [.int .i64 0, .int .i64 2, .int .i64 log, .int .i64 (2 + log), .int .i64 many, .int .i64 (2 + log + many * 12), .int .i64 many].toArray 26 (0, 0)))]) (lle 0 (llp 1 (llp 2 (llp 3 (llp 4 (llp 5 (llp 6 (llp 7 (llp 8 (llp 9 (llp 10 (llp 11 (llp 12 (llp 13 (llp 14 (llp 16 (llp 17 (lle 15 (lle 18 (llp 19 (llp 20 ll0))))))))))))))))))))) (by kernel_rfl) rfl (by kernel_rfl) ?_
    all_goals refine sl_eff ?_
    all_goals (repeat' (first | with_reducible (first | refine go1 ?_ | refine sct ?_ | refine scf ?_ | refine sgr ?_) | ((with_reducible refine sw_callf live_ok ?_); rintro _ _ ⟨rfl, rfl⟩) | ((with_reducible refine sw_callf (rvCheck_ok M L S f0 c0 f1 c1 n hM hL hS hf0 hc0 hf1 hc1 hn) ?_); rintro _ _ ⟨rfl, rfl⟩) | ((with_reducible refine sw_callf (q21Check_ok M L S f0 c0 f1 c1 n hM hL hS hf0 hc0 hf1 hc1 hn) ?_); rintro _ _ ⟨rfl, rfl⟩) | with_reducible refine sl_back ?_ | (with_reducible refine sc_cond (fun h => ?_) (fun h => ?_)) <;> (try (exfalso; first | contradiction | omega | exact h Iff.rfl)) | fail))
    all_goals (iterate 2 refine go1l ?_)
    all_goals (first | refine go1l ?_ | ((refine sl_split 33 (fun h => ?_) (fun h => ?_)) <;> (try (exfalso; first | contradiction | omega | exact h Iff.rfl)) <;> refine go1l ?_))
    all_goals (first | refine go1l ?_ | ((refine sl_split 33 (fun h => ?_) (fun h => ?_)) <;> (try (exfalso; first | contradiction | omega | exact h Iff.rfl)) <;> refine go1l ?_))
    all_goals (first | refine go1l ?_ | ((refine sl_split 33 (fun h => ?_) (fun h => ?_)) <;> (try (exfalso; first | contradiction | omega | exact h Iff.rfl)) <;> refine go1l ?_))
    all_goals (first | refine go1l ?_ | ((refine sl_split 33 (fun h => ?_) (fun h => ?_)) <;> (try (exfalso; first | contradiction | omega | exact h Iff.rfl)) <;> refine go1l ?_))
    all_goals refine go1l ?_
    all_goals (first | refine go1l ?_ | ((refine sl_split 38 (fun h => ?_) (fun h => ?_)) <;> (try (exfalso; first | contradiction | omega | exact h Iff.rfl)) <;> refine go1l ?_))
    all_goals (first | refine go1l ?_ | ((refine sl_split 38 (fun h => ?_) (fun h => ?_)) <;> (try (exfalso; first | contradiction | omega | exact h Iff.rfl)) <;> refine go1l ?_))
    all_goals (first | refine go1l ?_ | ((refine sl_split 38 (fun h => ?_) (fun h => ?_)) <;> (try (exfalso; first | contradiction | omega | exact h Iff.rfl)) <;> refine go1l ?_))
    all_goals (first | refine go1l ?_ | ((refine sl_split 38 (fun h => ?_) (fun h => ?_)) <;> (try (exfalso; first | contradiction | omega | exact h Iff.rfl)) <;> refine go1l ?_))
    all_goals refine go1l ?_
    all_goals (first | refine go1l ?_ | ((refine sl_split 43 (fun h => ?_) (fun h => ?_)) <;> (try (exfalso; first | contradiction | omega | exact h Iff.rfl)) <;> refine go1l ?_))
    all_goals (first | refine go1l ?_ | ((refine sl_split 43 (fun h => ?_) (fun h => ?_)) <;> (try (exfalso; first | contradiction | omega | exact h Iff.rfl)) <;> refine go1l ?_))
    all_goals (first | refine go1l ?_ | ((refine sl_split 43 (fun h => ?_) (fun h => ?_)) <;> (try (exfalso; first | contradiction | omega | exact h Iff.rfl)) <;> refine go1l ?_))
    all_goals (first | refine go1l ?_ | ((refine sl_split 43 (fun h => ?_) (fun h => ?_)) <;> (try (exfalso; first | contradiction | omega | exact h Iff.rfl)) <;> refine go1l ?_))
    all_goals refine sl_eff ?_
    all_goals (repeat' (first | with_reducible (first | refine go1 ?_ | refine sct ?_ | refine scf ?_ | refine sgr ?_) | ((with_reducible refine sw_callf live_ok ?_); rintro _ _ ⟨rfl, rfl⟩) | ((with_reducible refine sw_callf (rvCheck_ok M L S f0 c0 f1 c1 n hM hL hS hf0 hc0 hf1 hc1 hn) ?_); rintro _ _ ⟨rfl, rfl⟩) | ((with_reducible refine sw_callf (q21Check_ok M L S f0 c0 f1 c1 n hM hL hS hf0 hc0 hf1 hc1 hn) ?_); rintro _ _ ⟨rfl, rfl⟩) | with_reducible refine sl_back ?_ | (with_reducible refine sc_cond (fun h => ?_) (fun h => ?_)) <;> (try (exfalso; first | contradiction | omega | exact h Iff.rfl)) | fail))
    all_goals refine sl_eff ?_
    all_goals (repeat' (first | with_reducible (first | refine go1 ?_ | refine sct ?_ | refine scf ?_ | refine sgr ?_) | ((with_reducible refine sw_callf live_ok ?_); rintro _ _ ⟨rfl, rfl⟩) | ((with_reducible refine sw_callf (rvCheck_ok M L S f0 c0 f1 c1 n hM hL hS hf0 hc0 hf1 hc1 hn) ?_); rintro _ _ ⟨rfl, rfl⟩) | ((with_reducible refine sw_callf (q21Check_ok M L S f0 c0 f1 c1 n hM hL hS hf0 hc0 hf1 hc1 hn) ?_); rintro _ _ ⟨rfl, rfl⟩) | with_reducible refine sl_back ?_ | (with_reducible refine sc_cond (fun h => ?_) (fun h => ?_)) <;> (try (exfalso; first | contradiction | omega | exact h Iff.rfl)) | fail))
    all_goals (first | refine go1l ?_ | ((refine sl_split 43 (fun h => ?_) (fun h => ?_)) <;> (try (exfalso; first | contradiction | omega | exact h Iff.rfl)) <;> refine go1l ?_))
    all_goals (first | refine go1l ?_ | ((refine sl_split 43 (fun h => ?_) (fun h => ?_)) <;> (try (exfalso; first | contradiction | omega | exact h Iff.rfl)) <;> refine go1l ?_))
    all_goals refine sl_done ?_
    repeat' (first | with_reducible (first | refine go1 ?_ | refine sct ?_ | refine scf ?_ | refine sgr ?_) | ((with_reducible refine sw_callf hC ?_); rintro _ _ ⟨rfl, rfl⟩) | (with_reducible refine sc_cond (fun h => ?_) (fun h => ?_)) <;> (try (exfalso; first | contradiction | omega | exact h Iff.rfl)) | (with_reducible refine sw_guard_split (fun h => ?_) (fun h => ?_)) <;> (try (exfalso; first | contradiction | omega | exact h Iff.rfl)) | (with_reducible refine sw_pick (fun h => ?_) (fun h => ?_)) <;> (try (exfalso; first | contradiction | omega | exact h Iff.rfl)) | fail)
    refine sq_ret1 Tryz.results3 ?_
    refine ⟨_, ⟨rfl, rfl⟩, ?_⟩
    repeat' (first | with_reducible exact Ent.refl _ | with_reducible refine Ent.take_eq ?_ ?_ | rfl | with_reducible refine Ent.trans (Ent.drop _ _) ?_)
theorem plans_walk {W : World} {n log : Int} {p : List Int} (hn : I64 n) (hlog : I64 log) (hp : p.length = 8) (hp1 : ∀ x ∈ p, IntKind.i64.has x) :
    Calls Tryz.prog 3 #[.int .i64 n, .int .i64 log, .agg (p.map (Value.int .i64)).toArray] W fun e W' => e = .returned (.bool true) ∧ RowKit.Below W.heap.size W W' := by
  replace hp1 : ∀ x ∈ p, I64 x := fun x hx => has_I64 (hp1 x hx)
  match p, hp, hp1 with
  | [a, b, c, d, e, f, g, h], _, hp1 =>
    simp only [List.mem_cons, List.not_mem_nil, or_false, forall_eq_or_imp, forall_eq] at hp1
    obtain ⟨h1, h2, h3, h4, h5, h6, h7, h8⟩ := hp1
    exact call_of_run (args := [.int .i64 n, .int .i64 log, .agg #[.int .i64 a, .int .i64 b, .int .i64 c, .int .i64 d, .int .i64 e, .int .i64 f, .int .i64 g, .int .i64 h]]) W (l21Plans_ok n log a b c d e f g h hn hlog h1 h2 h3 h4 h5 h6 h7 h8)
end Go.Gsl
