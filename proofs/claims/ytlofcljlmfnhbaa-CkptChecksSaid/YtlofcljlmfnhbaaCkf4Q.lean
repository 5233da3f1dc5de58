/- The walk of CkptNone from what is handed in. -/
import Derived.Test.YtlofcljlmfnhbaaCkb4Q
import Derived.Test.YtlofcljlmfnhbaaCkf1Q
namespace Go.Gsl
set_option linter.unusedVariables false
open Go.Proofs Go.RowKit Go.ChangeShapes Go.WideShapes
theorem l19cArea : Try.prog.cellsOf 23 = 2 := by kernel_rfl
set_option maxRecDepth 100000 in
theorem read_area {H : Type} {enc : TypeId × Value → H} {W : World} {base : Nat} {v : Value} {d : DataW H} {p : List MemPlace} (ho : Value.okWide Try.prog W .any base 23 v) (h : DataW.Trod enc Try.prog W 0 (fun _ => true) true 23 v d p) : ∃ f c : Int, v = .agg #[.int .i64 f, .int .i64 c] ∧ I64 f ∧ I64 c := by
  obtain ⟨cs, rfl, hl⟩ := okWide_struct Try.underlying23 ho
  obtain ⟨fuel, hf⟩ := h
  rw [l19cArea] at hl
  have hf2 : DataW.trod enc Try.prog W 0 (fun _ => true) true fuel 23 cs.toList = some (d, p) := by simpa [Value.cells] using hf
  obtain ⟨n, hff⟩ := read_field Try.underlying23 hf2
  obtain ⟨c0, y0, e0, h0⟩ := hff 0 0 3 rfl l2cInt (by rw [l19cArea]; omega)
  obtain ⟨c1, y1, e1, h1⟩ := hff 1 1 3 rfl l2cInt (by rw [l19cArea]; omega)
  obtain ⟨f, rfl, w0⟩ := cell_int Try.underlying3 h0
  obtain ⟨c, rfl, w1⟩ := cell_int Try.underlying3 h1
  refine ⟨f, c, ?_, wf_i64 w0, wf_i64 w1⟩
  have hcl : cs.toList.length = 2 := by simpa using hl
  congr 1
  apply Array.ext'
  match hcs : cs.toList, hcl with
  | [a0, a1], _ =>
    rw [hcs] at e0 e1
    simp at e0 e1
    subst e0 e1
    rfl
theorem none19_walk {W : World} {v : Value} {l : List Sp} {f c : Int} (hf : I64 f) (hc : I64 c) (hv : RdS (ro W) v l) (hb : SpsB l) (hl : l.length ≤ 9223372036854775807) :
    Calls Try.prog 3 #[.agg #[.int .i64 f, .int .i64 c], v] W fun e W' => e = .returned (.bool true) ∧ Below W.heap.size W W' :=
  call_of_spec W ((l19None_ok 0 (ro W) v l f c hv hb hl).mono fun F v Rs' h => ⟨h.1, F, h.2⟩)
end Go.Gsl
