/- Equal, Same. -/
import Derived.Test.YtbmdaiopnnmamaaDisk8
namespace Go.Gsl
set_option linter.unusedVariables false
open Go.Proofs

section
variable {P : Program} {n : Nat} {w0 : World} {e : Env} {Rs F : List Res} {ty : TypeId}
theorem runop_load_rd {t : TypeId} {x : Operand} {b o o' : Nat} {xs : List Value} {r : HProp} (k i : Nat) (v : Value) [hx : Ev n e x (.pointer (some ⟨b, o', none⟩))] [hn : NonAgg P t] [tk : Take Rs k r F] (hr : Reads r (some ⟨b, o, none⟩) xs) (hv : xs[i]? = some v) (ho : o' = o + i) :
    RunOp P n w0 e Rs (.load t x) ty v := runop_load (a := ⟨b, o', none⟩) fun w hw => by
  obtain ⟨ad, h1, h2⟩ := hr.sat (k := k) hw i v hv
  cases h1
  rw [add_plain] at h2
  rw [ho]; exact h2
end

end Go.Gsl
