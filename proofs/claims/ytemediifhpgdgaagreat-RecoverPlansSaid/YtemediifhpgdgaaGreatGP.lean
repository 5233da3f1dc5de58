/- Areas: which ones fit. -/
import Derived.Test.YtemediifhpgdgaaGreatGC
import Derived.Test.YtemediifhpgdgaaGreatGB
namespace Go.Gsl
set_option linter.unusedVariables false
open Go.Proofs

/-- what is wrong with an area -/
def areaE (f c n : Int) : Int := if f < 0 ∨ c < 1 ∨ 4096 < c ∨ n < f ∨ n - f < c * 12 then 190 else 0
set_option maxHeartbeats 1000000 in
theorem ckCheck_ok (f c n : Int) (hf : I64 f) (hc : I64 c) (hn : I64 n) : Spec Tryz.prog 19 [.agg [.int .i64 f, .int .i64 c].toArray, .int .i64 n] [] [] fun F w Rs' => w = .int .i64 (areaE f c n) ∧ Rs' = F := by
  unfold I64 at hf hc hn
  refine spec_of Tryz.func19 rfl Tryz.ntmps19 rfl ?_
  intro w0 F
  repeat' (first | with_reducible (first | refine go1 ?_ | refine sct ?_ | refine scf ?_ | refine sgr ?_) | fail)
  refine sw_box fun b1 => ?_
  repeat' (first | with_reducible refine sw_in (by omega) ?_ | with_reducible (first | refine go1 ?_ | refine sct ?_ | refine scf ?_ | refine sgr ?_) | with_reducible refine sw_guard_skip_u ?_ | (with_reducible refine sc_cond (fun h => ?_) (fun h => ?_)) <;> (try (exfalso; first | contradiction | omega | exact h Iff.rfl)) | (with_reducible refine sw_guard_split (fun h => ?_) (fun h => ?_)) <;> (try (exfalso; first | contradiction | omega | exact h Iff.rfl)) | (with_reducible refine sw_pick (fun h => ?_) (fun h => ?_)) <;> (try (exfalso; first | contradiction | omega | exact h Iff.rfl)) | fail)
  all_goals first
    | (refine sq_ret1 Tryz.results19 ?_
       refine ⟨_, ⟨?_, rfl⟩, Ent.drop _ _⟩
       unfold areaE
       first | rw [if_pos (by omega)] | rw [if_neg (by omega)])
    | skip
set_option maxHeartbeats 1000000 in
theorem r19Check_ok (f c n : Int) (hf : I64 f) (hc : I64 c) (hn : I64 n) : Spec Tryz.prog 20 [.agg [.int .i64 f, .int .i64 c].toArray, .int .i64 n] [] [] fun F w Rs' => w = .int .i64 (areaE f c n) ∧ Rs' = F := by
  unfold I64 at hf hc hn
  refine spec_of Tryz.func20 rfl Tryz.ntmps20 rfl ?_
  intro w0 F
  repeat' (first | with_reducible (first | refine go1 ?_ | refine sct ?_ | refine scf ?_ | refine sgr ?_) | fail)
  refine sw_box fun b1 => ?_
  repeat' (first | with_reducible refine sw_in (by omega) ?_ | with_reducible (first | refine go1 ?_ | refine sct ?_ | refine scf ?_ | refine sgr ?_) | with_reducible refine sw_guard_skip_u ?_ | (with_reducible refine sc_cond (fun h => ?_) (fun h => ?_)) <;> (try (exfalso; first | contradiction | omega | exact h Iff.rfl)) | (with_reducible refine sw_guard_split (fun h => ?_) (fun h => ?_)) <;> (try (exfalso; first | contradiction | omega | exact h Iff.rfl)) | (with_reducible refine sw_pick (fun h => ?_) (fun h => ?_)) <;> (try (exfalso; first | contradiction | omega | exact h Iff.rfl)) | fail)
  all_goals first
    | (refine sq_ret1 Tryz.results20 ?_
       refine ⟨_, ⟨?_, rfl⟩, Ent.drop _ _⟩
       unfold areaE
       first | rw [if_pos (by omega)] | rw [if_neg (by omega)])
    | skip
end Go.Gsl
