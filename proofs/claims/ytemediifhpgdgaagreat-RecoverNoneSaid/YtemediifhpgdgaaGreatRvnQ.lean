/- RecoverNone, run by the kernel. -/
import Derived.Test.YtemediifhpgdgaaGreatXP
import Derived.Test.YtemediifhpgdgaaGreatXD
namespace Go.Gsl
set_option linter.unusedVariables false
open Go.Proofs
theorem rvn_run : runF (ρ := Unit) Vpg 3000 4 [some (.agg ⟨[.chan (some 0), .chan (some 1), .chan (some 2), .chan (some 3), .chan (some 4), .chan (some 5), .chan (some 6)]⟩),
    some (.agg ⟨[.chan (some 7), .chan (some 8), .chan (some 9), .chan (some 10), .chan (some 11), .chan (some 12), .chan (some 13), .chan (some 14)]⟩)] .lf 0 (fun v _ _ => ckK (eqV v (.bool true)) (some ())) = some () := by kernel_rfl
end Go.Gsl
