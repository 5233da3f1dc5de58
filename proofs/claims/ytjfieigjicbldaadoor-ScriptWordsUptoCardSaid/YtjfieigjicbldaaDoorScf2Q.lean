/- The walk of ScriptWords from what is handed in. -/
import Derived.Test.YtjfieigjicbldaaDoorGZ
namespace Go.Gsl
set_option linter.unusedVariables false
open Go.Proofs Go.RowKit Go.ChangeShapes Go.WideShapes
theorem words26_walk {W : World} (hL : laidMetH Tryd.prog laidL W) {a : Option Addr} {xs : List Bs} {c n : Nat} (ht : TxtAt W a xs c) (hs : (xs.map fun s => s.length + 1).sum ≤ n) (hb : n ≤ 1048576) :
    Calls Tryd.prog 4 #[.slice a xs.length c] W fun e W' => e = .returned (.bool true) ∧ Below W.heap.size W W' :=
  have h1 := join_le 32 xs
  have h2 := sum_len xs
  call_of_spec W ((l26Words_ok W (laid_tabs hL) a xs c ht (by omega) (by omega) (fun x hx => by have := sum_part xs x hx; omega)).mono fun F v Rs' h => ⟨h.1, F, h.2⟩)
end Go.Gsl
