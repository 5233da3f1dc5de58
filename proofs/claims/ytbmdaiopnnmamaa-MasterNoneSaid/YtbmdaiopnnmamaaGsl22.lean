/- Structs built where the order is drawn. -/
import Derived.Test.YtbmdaiopnnmamaaGsl21
namespace Go.Gsl
set_option linter.unusedVariables false
section
variable {P : Program} {ops : List Oper} {Q : Cont} {n : Nat} {w0 : World} {rest : List Oper} {e : Env} {Rs F : List Res} {ty : TypeId}
theorem runop_buildR {t : TypeId} {xs : List (Nat × Operand)} {vs : List (Nat × Value)} {z : Value} {pl : List (Nat × Nat)} (cs : List Value) [hx : PartsL n e xs vs] [hz : ZeroOf P t z] [hp : Places P t pl] (hf : Instr.fill (fun i => pl[i]?) z.cells vs = some cs.toArray) :
    RunOp P n w0 e Rs (.build t xs.toArray) ty (.agg cs.toArray) := @RunOp.pure P n w0 e Rs _ _ _ (runop_build (cs := cs) hf)
end
end Go.Gsl
