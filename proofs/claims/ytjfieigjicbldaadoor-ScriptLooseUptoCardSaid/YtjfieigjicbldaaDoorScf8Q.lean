/- The walk of ScriptLoose from what is handed in. -/
import Derived.Test.YtjfieigjicbldaaDoorScf4Q
import Derived.Test.YtjfieigjicbldaaDoorGVI
namespace Go.Gsl
set_option linter.unusedVariables false
open Go.Proofs Go.RowKit Go.ChangeShapes Go.WideShapes
section
variable {H : Type} {enc : TypeId × Value → H} {W : World} {base : Nat}
set_option maxRecDepth 100000 in
theorem read_boolsV {v : Value} {d : DataW H} {p : List MemPlace} (ho : Value.okWide Tryd.prog W .any base 38 v) (h : DataW.Trod enc Tryd.prog W 0 (fun _ => true) true 38 v d p) :
    ∃ ks : List Bool, RdK (ro W) v ks ∧ ks.length + 1 ≤ bulk d := by
  obtain ⟨a0, len, cap, rfl⟩ := okWide_slice Tryd.underlying38 ho
  obtain ⟨fuel, hf⟩ := h
  have hf2 : DataW.trod enc Tryd.prog W 0 (fun _ => true) true fuel 38 [.slice a0 len cap] = some (d, p) := by simpa [Value.cells] using hf
  exact read_bools hf2
end
theorem loose26_walk {W : World} (hL : laidMetH Tryd.prog laidL W) {s : Bs} {v : Value} {ks : List Bool} {m n : Nat} (hs : s.length ≤ m) (hk : RdK (ro W) v ks) (hn : ks.length + 1 ≤ n) (hb : m + n ≤ 1048576) :
    Calls Tryd.prog 5 #[.string (sB s), v] W fun e W' => e = .returned (.bool true) ∧ Below W.heap.size W W' :=
  call_of_spec W ((l26Loose_ok W (laid_tabs hL) s (by omega) v ks hk (by omega)).mono fun F v Rs' h => ⟨h.1, F, h.2⟩)
end Go.Gsl
