/- The walk of ScriptReads from what is handed in. -/
import Derived.Test.YtjfieigjicbldaaDoorGZ
import Derived.Test.YtjfieigjicbldaaDoorGVD
namespace Go.Gsl
set_option linter.unusedVariables false
open Go.Proofs Go.RowKit Go.ChangeShapes Go.WideShapes
section
variable {H : Type} {enc : TypeId × Value → H} {W : World} {base : Nat}
set_option maxRecDepth 100000 in
theorem read_text {v : Value} {d : DataW H} {p : List MemPlace} (ho : Value.okWide Tryd.prog W .any base 9 v) (h : DataW.Trod enc Tryd.prog W 0 (fun _ => true) true 9 v d p) :
    ∃ s : Bs, v = .string (sB s) ∧ s.length ≤ YtjfieigjicbldaaDoor.Rows.uptoBulk d := by
  obtain ⟨s, rfl⟩ := okWide_string Tryd.underlying9 ho
  obtain ⟨fuel, hf⟩ := h
  obtain ⟨s', hs, hx, _⟩ := DataW.trod_string Tryd.underlying9 hf
  simp only [Prod.mk.injEq] at hx
  have : s = s' := by simpa [Value.cells] using hs
  subst this
  refine ⟨s.data.toList, by simp [sB], ?_⟩
  rw [hx.1]
  simp only [YtjfieigjicbldaaDoor.Rows.uptoBulk]
  omega
end
theorem reads26_walk {W : World} (hL : laidMetH Tryd.prog laidL W) {s : Bs} {n : Nat} (hs : s.length ≤ n) (hb : n ≤ 1048576) :
    Calls Tryd.prog 3 #[.string (sB s)] W fun e W' => e = .returned (.bool true) ∧ Below W.heap.size W W' :=
  call_of_spec W ((l26Reads_ok W (laid_tabs hL) s (by omega)).mono fun F v Rs' h => ⟨h.1, F, h.2⟩)
end Go.Gsl
