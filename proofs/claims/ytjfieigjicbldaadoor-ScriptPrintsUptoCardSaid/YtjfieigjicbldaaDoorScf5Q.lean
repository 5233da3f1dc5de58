/- The walk of ScriptApart from what is handed in. -/
import Derived.Test.YtjfieigjicbldaaDoorScf4Q
import Derived.Test.YtjfieigjicbldaaDoorGVE
namespace Go.Gsl
set_option linter.unusedVariables false
open Go.Proofs Go.RowKit Go.ChangeShapes Go.WideShapes
theorem small_of {a : Act} {n : Nat} (h : a.sz + 8 ≤ n) (hn : -9223372036854775808 ≤ a.n ∧ a.n ≤ 9223372036854775807) (hb : n ≤ 1048576) : a.small := by
  unfold Act.sz Call.sz at h
  exact ⟨hn, by omega, by omega, by omega, by omega, by omega⟩
theorem apart26_walk {W : World} (hL : laidMetH Tryd.prog laidL W) {x y : Act} {vx vy : Value} {m n : Nat} (hx : RdK (ro W) vx x.k) (nx : -9223372036854775808 ≤ x.n ∧ x.n ≤ 9223372036854775807) (sx : x.sz + 8 ≤ m)
    (hy : RdK (ro W) vy y.k) (ny : -9223372036854775808 ≤ y.n ∧ y.n ≤ 9223372036854775807) (sy : y.sz + 8 ≤ n) (hb : m + n ≤ 1048576) :
    Calls Tryd.prog 6 #[.agg (actC x vx).toArray, .agg (actC y vy).toArray] W fun e W' => e = .returned (.bool true) ∧ Below W.heap.size W W' :=
  call_of_spec W ((l26Apart_ok W (laid_tabs hL) x y vx vy hx hy (small_of sx nx (by omega)) (small_of sy ny (by omega))).mono fun F v Rs' h => ⟨h.1, F, h.2⟩)
end Go.Gsl
