/- A script's reading; OracleRises' call. -/
import Derived.Test.YtccmenekmmlboaaOr3
import Derived.Test.YtccmenekmmlboaaGsl8
namespace Go.Gsl
set_option linter.unusedVariables false
open Go.Proofs Go.RowKit

theorem cells37 : Try.prog.cellsOf 37 = 4 := by kernel_rfl
theorem cells3 : Try.prog.cellsOf 3 = 1 := by kernel_rfl
theorem cells2 : Try.prog.cellsOf 2 = 1 := by kernel_rfl
theorem cells4 : Try.prog.cellsOf 4 = 1 := by kernel_rfl

theorem read_op {H : Type} {enc : TypeId × Value → H} {W : World} {cs : List Value} {fuel : Nat} {x : DataW H × List MemPlace} (hl : cs.length = 4) (h : DataW.trod enc Try.prog W 0 (fun _ => true) true fuel 37 cs = some x) : ∃ o : Op4, cs = opv o.d o.s o.t o.o := by
  obtain ⟨n, hf⟩ := read_field Try.underlying37 h
  obtain ⟨c0, y0, e0, h0⟩ := hf 0 0 3 rfl cells3 (by rw [cells37]; omega)
  obtain ⟨c1, y1, e1, h1⟩ := hf 1 1 3 rfl cells3 (by rw [cells37]; omega)
  obtain ⟨c2, y2, e2, h2⟩ := hf 2 2 2 rfl cells2 (by rw [cells37]; omega)
  obtain ⟨c3, y3, e3, h3⟩ := hf 3 3 4 rfl cells4 (by rw [cells37]; omega)
  obtain ⟨d, rfl, _⟩ := cell_int Try.underlying3 h0
  obtain ⟨s, rfl, _⟩ := cell_int Try.underlying3 h1
  obtain ⟨t, rfl, _⟩ := cell_int Try.underlying2 h2
  obtain ⟨o, rfl⟩ := cell_bool Try.underlying4 h3
  refine ⟨⟨d, s, t, o⟩, ?_⟩
  match cs, hl with
  | [a, b, c, d'], _ =>
    simp at e0 e1 e2 e3
    subst e0 e1 e2 e3
    rfl

set_option maxRecDepth 100000 in
theorem read_script {H : Type} {enc : TypeId × Value → H} {W : World} {base : Nat} {v : Value} {d : DataW H} {p : List MemPlace} (ho : Value.okWide Try.prog W .any base 35 v) (h : DataW.Trod enc Try.prog W 0 (fun _ => true) true 35 v d p) :
    ∃ a os c, v = .slice a (os : List Op4).length c ∧ OpsAt W a os ∧ os.length ≤ maxLen := by
  have hx := read_slice (base := base) (v := v) (d := d) (p := p) (enc := enc) (W := W) Try.underlying35 ho h
  rcases hx with rfl | ⟨a, len, cap, fuel, rfl, hl, hm, hel⟩
  · refine ⟨none, [], 0, rfl, ?_, ?_⟩
    · intro k hk; cases hk
    · exact Nat.zero_le _
  · rw [cells37] at hel
    have hch : ∀ i, i < len → ∃ o : Op4, CellsAt W (a.add (i * 4)) (opv o.d o.s o.t o.o) := by
      intro i hi
      obtain ⟨es, y, hes, hc, ht⟩ := hel i hi
      obtain ⟨o, rfl⟩ := read_op hes ht
      exact ⟨o, hc⟩
    obtain ⟨g, hg⟩ := Deep.choose_lt hch
    refine ⟨some a, (List.range len).map g, cap, by simp, ?_, ?_⟩
    · intro k hk
      simp only [List.length_map, List.length_range] at hk
      have h0 := hg 0 (by omega)
      rw [Nat.zero_mul, show a.add 0 = a by simp [Addr.add]] at h0
      have ha := cells_plain (m := 3) rfl h0
      refine ⟨a.block, a.off, by rw [← ha], fun j v hj => ?_⟩
      have h1 := hg k hk j v (by simpa using hj)
      rw [ha, add_plain, add_plain] at h1
      exact h1
    · simp only [List.length_map, List.length_range]
      omega

theorem rises_walk {W : World} {last : Int} {a : Option Addr} {os : List Op4} {c : Nat} (hos : OpsAt W a os) (hlen : os.length ≤ maxLen) :
    Calls Try.prog 4 #[.int .i64 last, .slice a os.length c] W fun e W' => e = .returned (.bool true) ∧ Below W.heap.size W W' := call_of_spec W (f4_ok W last a os c hos (by unfold maxLen at hlen; omega))
end Go.Gsl
