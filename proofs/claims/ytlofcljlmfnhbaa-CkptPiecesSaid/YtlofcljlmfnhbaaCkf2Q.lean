/- The walk of CkptPieces from what is handed in. -/
import Derived.Test.YtlofcljlmfnhbaaCkb2Q
import Derived.Test.YtlofcljlmfnhbaaCkf1Q
namespace Go.Gsl
set_option linter.unusedVariables false
open Go.Proofs Go.RowKit Go.ChangeShapes Go.WideShapes
theorem pieces19_walk {W : World} {v cv : Value} {l : List Sp} {bs : List Int} (hv : RdS (ro W) v l) (hb : SpsB l) (hl : l.length ≤ 9223372036854775807) (hcv : RdBx (ro W) cv bs) (hcb : Byt bs) (hcl : bs.length ≤ 140737488355328) :
    Calls Try.prog 7 #[v, cv] W fun e W' => e = .returned (.bool true) ∧ Below W.heap.size W W' :=
  call_of_spec W ((l19Pieces_ok 0 (ro W) v cv l bs hv hb hl hcv hcb (by omega)).mono fun F v Rs' h => ⟨h.1, F, h.2⟩)
end Go.Gsl
