/- The walk of CkptChecks from what is handed in. -/
import Derived.Test.YtlofcljlmfnhbaaCkb6Q
import Derived.Test.YtlofcljlmfnhbaaCkf4Q
namespace Go.Gsl
set_option linter.unusedVariables false
open Go.Proofs Go.RowKit Go.ChangeShapes Go.WideShapes
theorem checks19_walk {W : World} {v : Value} {l : List Sp} {f c n : Int} (hf : I64 f) (hc : I64 c) (wn : (Lit.int .i64 n).wf = true) (hv : RdS (ro W) v l) (hb : SpsB l) (hl : l.length ≤ 3518437208883) :
    Calls Try.prog 4 #[.agg #[.int .i64 f, .int .i64 c], .int .i64 n, v] W fun e W' => e = .returned (.bool true) ∧ Below W.heap.size W W' :=
  call_of_spec W ((l19Checks_ok 0 (ro W) v l f c n hv hb hl hf hc (wf_i64 wn)).mono fun F v Rs' h => ⟨h.1, F, h.2⟩)
end Go.Gsl
