/- 'live', run by the kernel. -/
import Derived.Test.YtemediifhpgdgaaGreatXP
import Derived.Test.YtemediifhpgdgaaGreatXD
namespace Go.Gsl
set_option linter.unusedVariables false
open Go.Proofs
theorem live_run : runFn (ρ := Unit) Vpg 3000 7 [] .lf 0 (fun v _ _ => ckK (eqV v (.bool true)) (some ())) = some () := by kernel_rfl
end Go.Gsl
