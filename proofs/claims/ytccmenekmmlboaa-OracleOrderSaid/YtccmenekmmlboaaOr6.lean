/- Bytes that came in; OracleOrder's call. -/
import Derived.Test.YtccmenekmmlboaaOr5
namespace Go.Gsl
set_option linter.unusedVariables false
open Go.Proofs Go.RowKit

theorem cells5 : Try.prog.cellsOf 5 = 1 := by kernel_rfl
theorem u8_wf {n : Int} (h : (Lit.int .u8 n).wf = true) : 0 ≤ n ∧ n ≤ 255 := by
  simp only [Lit.wf, Bool.and_eq_true, decide_eq_true_eq] at h
  rw [show IntKind.u8.min = 0 from rfl, show IntKind.u8.max = 255 from rfl] at h
  exact h
theorem u32_wf {n : Int} (h : (Lit.int .u32 n).wf = true) : 0 ≤ n ∧ n ≤ 4294967295 := by
  simp only [Lit.wf, Bool.and_eq_true, decide_eq_true_eq] at h
  rw [show IntKind.u32.min = 0 from rfl, show IntKind.u32.max = 4294967295 from rfl] at h
  exact h

set_option maxRecDepth 100000 in
theorem read_bytes {H : Type} {enc : TypeId × Value → H} {W : World} {base t : Nat} {v : Value} {d : DataW H} {p : List MemPlace} (hu : Try.prog.underlying t = some (.slice 5)) (ho : Value.okWide Try.prog W .any base t v) (h : DataW.Trod enc Try.prog W 0 (fun _ => true) true t v d p) :
    ∃ a os c, v = .slice a (os : List Int).length c ∧ BytesAt W a os ∧ os.length ≤ maxLen := by
  have hx := read_slice (base := base) (v := v) (d := d) (p := p) (enc := enc) (W := W) hu ho h
  rcases hx with rfl | ⟨a, len, cap, fuel, rfl, hl, hm, hel⟩
  · refine ⟨none, [], 0, rfl, ?_, ?_⟩
    · intro k hk; cases hk
    · exact Nat.zero_le _
  · rw [cells5] at hel
    have hch : ∀ i, i < len → ∃ o : Int, (0 ≤ o ∧ o ≤ 255) ∧ CellsAt W (a.add i) [.int .u8 o] := by
      intro i hi
      obtain ⟨es, y, hes, hc, ht⟩ := hel i hi
      match es, hes with
      | [e], _ =>
        obtain ⟨o, rfl, hw⟩ := cell_int Try.underlying5 ht
        exact ⟨o, u8_wf hw, by simpa using hc⟩
    obtain ⟨g, hg⟩ := Deep.choose_lt hch
    refine ⟨some a, (List.range len).map g, cap, by simp, ?_, ?_⟩
    · intro k hk
      simp only [List.length_map, List.length_range] at hk
      have h0 := (hg 0 (by omega)).2
      rw [show a.add 0 = a by simp [Addr.add]] at h0
      have ha := cells_plain (m := 0) rfl h0
      have h1 := (hg k hk).2 0 (.int .u8 (g k)) rfl
      rw [ha, add_plain, add_plain] at h1
      refine ⟨⟨a.block, a.off, by rw [← ha], ?_⟩, ?_⟩
      · simpa using h1
      · simpa using (hg k hk).1
    · simp only [List.length_map, List.length_range]
      omega

theorem order_walk {W : World} {x many : Int} {a : Option Addr} {os : List Int} {c : Nat} (hx : (Lit.int .u32 x).wf = true) (hm : (Lit.int .u8 many).wf = true) (hos : BytesAt W a os) (hlen : os.length ≤ maxLen) :
    Calls Try.prog 3 #[.int .u32 x, .int .u8 many, .slice a os.length c] W fun e W' => e = .returned (.bool true) ∧ Below W.heap.size W W' := call_of_spec W (f3_ok W x many a os c (u32_wf hx) (u8_wf hm) hos (by unfold maxLen at hlen; omega))
end Go.Gsl
