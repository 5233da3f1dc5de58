/- Arrays built where the order is drawn. -/
import Derived.Test.YtbmdaiopnnmamaaGsl23
namespace Go.Gsl
set_option linter.unusedVariables false
section
variable {P : Program} {ops : List Oper} {Q : Cont} {n : Nat} {w0 : World} {rest : List Oper} {e : Env} {Rs F : List Res} {ty : TypeId}
theorem runop_buildRA {t et : TypeId} {m sz : Nat} {xs : List (Nat × Operand)} {vs : List (Nat × Value)} {z : Value} (cs : List Value) [hx : PartsL n e xs vs] [hz : ZeroOf P t z] [hu : Und P t (.array m et)] [hs : SizeOf P et sz] (hf : Instr.fill (fun i => some (i * sz, sz)) z.cells vs = some cs.toArray) :
    RunOp P n w0 e Rs (.build t xs.toArray) ty (.agg cs.toArray) := @RunOp.pure P n w0 e Rs _ _ _ (runop_buildA (cs := cs) hf)
end
end Go.Gsl
