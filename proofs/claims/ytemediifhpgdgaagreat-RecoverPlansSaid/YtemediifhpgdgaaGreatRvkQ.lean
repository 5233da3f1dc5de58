/- 'live': it answers true. -/
import Derived.Test.YtemediifhpgdgaaGreatRvlQ
namespace Go.Gsl
set_option linter.unusedVariables false
open Go.Proofs
theorem live_ok : Spec Tryz.prog 7 [] [] [] fun F v Rs' => v = .bool true ∧ Rs' = F :=
  spec_run (vs := []) (fuel := 3000) (k := fun v _ _ => ckK (eqV v (.bool true)) (some ())) (v := .bool true) (s := fun _ => .bool false) Vpg_ok (fun _ => rfl) (b := Vb7) (by kernel_rfl) rfl rfl (fun v' H nx h => eqV_eq (ckK_some h).1) live_run
end Go.Gsl
