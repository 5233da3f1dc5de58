/- The walk of ScriptPrints from what is handed in. -/
import Derived.Test.YtjfieigjicbldaaDoorScf6Q
import Derived.Test.YtjfieigjicbldaaDoorGVH
namespace Go.Gsl
set_option linter.unusedVariables false
open Go.Proofs Go.RowKit Go.ChangeShapes Go.WideShapes
theorem prints26_walk {W : World} (hL : laidMetH Tryd.prog laidL W) {c0 c1 c2 c3 c4 c5 c6 d0 d1 d2 d3 d4 d5 d6 : Int} {va vb : Value} {l k : List Act} {m n : Nat} (hc : I64 c0 ∧ I64 c1 ∧ I64 c2 ∧ I64 c3 ∧ I64 c4 ∧ I64 c5 ∧ I64 c6) (hA : m ≤ 1048576 → RdAs (ro W) va l) (hn : ∀ a ∈ l, I64 a.n)
    (hm : sumSz l + 8 * l.length + 1 ≤ m) (hA' : n ≤ 1048576 → RdAs (ro W) vb k) (hn' : ∀ a ∈ k, I64 a.n) (hm' : sumSz k + 8 * k.length + 1 ≤ n) (hb : m + n ≤ 1048576) :
    Calls Tryd.prog 7 #[.agg ([.int .i64 c0, .int .i64 c1, .int .i64 c2, .int .i64 c3, .int .i64 c4, .int .i64 c5, .int .i64 c6, va] : List Value).toArray, .agg ([.int .i64 d0, .int .i64 d1, .int .i64 d2, .int .i64 d3, .int .i64 d4, .int .i64 d5, .int .i64 d6, vb] : List Value).toArray] W fun e W' => e = .returned (.bool true) ∧ Below W.heap.size W W' :=
  call_of_spec W ((l26Prints_ok W (laid_tabs hL) c0 c1 c2 c3 c4 c5 c6 d0 d1 d2 d3 d4 d5 d6 hc.1 hc.2.1 hc.2.2.1 hc.2.2.2.1 hc.2.2.2.2.1 hc.2.2.2.2.2.1 hc.2.2.2.2.2.2 va vb l k (hA (by omega)) (hA' (by omega)) (smalls_of hm hn (by omega)) (smalls_of hm' hn' (by omega)) (by omega) (by omega)).mono fun F v Rs' h => ⟨h.1, F, h.2⟩)
end Go.Gsl
