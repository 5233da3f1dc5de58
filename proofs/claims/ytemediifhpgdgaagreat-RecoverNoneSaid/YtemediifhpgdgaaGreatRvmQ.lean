/- RecoverNone, walked. -/
import Derived.Test.YtemediifhpgdgaaGreatRvnQ
namespace Go.Gsl
set_option linter.unusedVariables false
open Go.Proofs
set_option maxRecDepth 100000 in
theorem rvn_walk {W : World} {a b : List Value} (ha : a.length = 7) (ha1 : ∀ u ∈ a, u.oneCell' = true) (hb : b.length = 8) (hb1 : ∀ u ∈ b, u.oneCell' = true) :
    Calls Tryz.prog 4 #[.agg a.toArray, .agg b.toArray] W fun e W' => e = .returned (.bool true) ∧ RowKit.Below W.heap.size W W' := by
  refine call_of_run (args := [.agg a.toArray, .agg b.toArray]) W (spec_run (vs := [.agg ⟨[.chan (some 0), .chan (some 1), .chan (some 2), .chan (some 3), .chan (some 4), .chan (some 5), .chan (some 6)]⟩, .agg ⟨[.chan (some 7), .chan (some 8), .chan (some 9), .chan (some 10), .chan (some 11), .chan (some 12), .chan (some 13), .chan (some 14)]⟩]) (s := optS (a ++ b)) (fuel := 3000) (k := fun v _ _ => ckK (eqV v (.bool true)) (some ())) (v := .bool true) Vpg_ok (optS_one (one_app ha1 hb1)) (b := Vb4) (by kernel_rfl) ?_ rfl (fun v' H nx h => eqV_eq (ckK_some h).1) rvn_run)
  match a, b, ha, hb with
  | [a0, a1, a2, a3, a4, a5, a6], [b0, b1, b2, b3, b4, b5, b6, b7], _, _ => simp only [tr, trL]; rfl
end Go.Gsl
