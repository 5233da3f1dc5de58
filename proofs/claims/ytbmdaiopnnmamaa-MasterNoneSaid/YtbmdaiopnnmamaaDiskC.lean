/- begun. -/
import Derived.Test.YtbmdaiopnnmamaaDiskB
namespace Go.Gsl
set_option linter.unusedVariables false
open Go.Proofs

theorem dNew_2 : Spec Try.prog 31 [.int .i64 2] [] [] fun F v Rs' => ∃ p, v = .tuple #[.pointer (some ⟨p, 0, none⟩), .int .i64 0] ∧ Rs' = (p, DISK p (Dk.new 2)) :: F := dNew_ok 2 (by omega) (by omega)

end Go.Gsl
