/- Masters handed in. -/
import Derived.Test.YtbmdaiopnnmamaaMst7
import Derived.Test.YtbmdaiopnnmamaaGsl8
import Derived.SizedLaws
namespace Go.Gsl
set_option linter.unusedVariables false
open Go.Proofs Go.RowKit Go.ChangeShapes Go.WideShapes

theorem read_fieldW {P : Program} {t : TypeId} {H : Type} {enc : TypeId × Value → H} {W : World} {fs : Array Field} {cs : List Value} {fuel : Nat} {x : DataW H × List MemPlace} (hu : P.underlying t = some (.struct fs)) (h : DataW.trod enc P W 0 (fun _ => true) true fuel t cs = some x) :
    ∃ n, ∀ (i off ft c : Nat), (fs[i]?).map (fun f => (f.offset, f.type)) = some (off, ft) → P.cellsOf ft = c → ∃ y, DataW.trod enc P W 0 (fun _ => true) true n ft ((cs.drop off).take c) = some y := by
  obtain ⟨xs, n, _, _, hl, hlen, hf⟩ := DataW.trod_struct hu h
  refine ⟨n, fun i off ft c hi hc => ?_⟩
  obtain ⟨f, hfi, he⟩ := Option.map_eq_some_iff.1 hi
  simp only [Prod.mk.injEq] at he
  obtain ⟨rfl, rfl⟩ := he
  have h1 := hf i f hfi
  rw [hc] at h1
  have h3 : i < xs.length := by rw [hlen]; exact (Array.getElem?_eq_some_iff.1 hfi).1
  exact ⟨xs[i], by rw [h1]; simp [h3]⟩
theorem cellsI64 : (Try.prog).cellsOf 2 = 1 := by kernel_rfl
theorem cellsInt : (Try.prog).cellsOf 3 = 1 := by kernel_rfl
theorem cellsMark : (Try.prog).cellsOf 23 = 4 := by kernel_rfl
theorem cellsMs : (Try.prog).cellsOf 34 = 8 := by kernel_rfl

theorem i64_wf {n : Int} (h : (Lit.int .i64 n).wf = true) : I64 n := by
  simp only [Lit.wf, Bool.and_eq_true, decide_eq_true_eq] at h
  rw [show IntKind.i64.min = -9223372036854775808 from rfl, show IntKind.i64.max = 9223372036854775807 from rfl] at h
  exact h

section
variable {H : Type} {enc : TypeId × Value → H} {W : World}
theorem read_mark {cs : List Value} {fuel : Nat} {x : DataW H × List MemPlace} (hl : cs.length = 4) (h : DataW.trod enc Try.prog W 0 (fun _ => true) true fuel 23 cs = some x) : ∃ a b c d : Int, cs = [.int .i64 a, .int .i64 b, .int .i64 c, .int .i64 d] ∧ I64 a ∧ I64 b ∧ I64 c ∧ I64 d := by
  obtain ⟨n, hf⟩ := read_field Try.underlying23 h
  obtain ⟨c0, y0, e0, h0⟩ := hf 0 0 2 rfl cellsI64 (by rw [cellsMark]; omega)
  obtain ⟨c1, y1, e1, h1⟩ := hf 1 1 3 rfl cellsInt (by rw [cellsMark]; omega)
  obtain ⟨c2, y2, e2, h2⟩ := hf 2 2 2 rfl cellsI64 (by rw [cellsMark]; omega)
  obtain ⟨c3, y3, e3, h3⟩ := hf 3 3 2 rfl cellsI64 (by rw [cellsMark]; omega)
  obtain ⟨a, rfl, w0⟩ := cell_int Try.underlying2 h0
  obtain ⟨b, rfl, w1⟩ := cell_int Try.underlying3 h1
  obtain ⟨c, rfl, w2⟩ := cell_int Try.underlying2 h2
  obtain ⟨d, rfl, w3⟩ := cell_int Try.underlying2 h3
  refine ⟨a, b, c, d, ?_, i64_wf w0, i64_wf w1, i64_wf w2, i64_wf w3⟩
  match cs, hl with
  | [p, q, r, s], _ =>
    simp at e0 e1 e2 e3
    subst e0 e1 e2 e3
    rfl
theorem read_ms {cs : List Value} {fuel : Nat} {x : DataW H × List MemPlace} (hl : cs.length = 8) (h : DataW.trod enc Try.prog W 0 (fun _ => true) true fuel 34 cs = some x) : ∃ m : Ms, cs = m.cs ∧ m.In := by
  obtain ⟨n, hf⟩ := read_field Try.underlying34 h
  obtain ⟨n', hg⟩ := read_fieldW Try.underlying34 h
  obtain ⟨c0, y0, e0, h0⟩ := hf 0 0 2 rfl cellsI64 (by rw [cellsMs]; omega)
  obtain ⟨c1, y1, e1, h1⟩ := hf 1 1 3 rfl cellsInt (by rw [cellsMs]; omega)
  obtain ⟨c2, y2, e2, h2⟩ := hf 2 2 3 rfl cellsInt (by rw [cellsMs]; omega)
  obtain ⟨c3, y3, e3, h3⟩ := hf 3 3 2 rfl cellsI64 (by rw [cellsMs]; omega)
  obtain ⟨y4, h4⟩ := hg 4 4 23 4 rfl cellsMark
  obtain ⟨a, rfl, w0⟩ := cell_int Try.underlying2 h0
  obtain ⟨b, rfl, w1⟩ := cell_int Try.underlying3 h1
  obtain ⟨c, rfl, w2⟩ := cell_int Try.underlying3 h2
  obtain ⟨d, rfl, w3⟩ := cell_int Try.underlying2 h3
  match cs, hl with
  | [p, q, r, s, t, u, v, w], _ =>
    obtain ⟨a', b', c', d', e4, w4, w5, w6, w7⟩ := read_mark (by rfl) h4
    simp at e0 e1 e2 e3 e4
    obtain ⟨rfl, rfl, rfl, rfl⟩ := e4
    subst e0 e1 e2 e3
    refine ⟨⟨a, b, c, d, a', b', c', d'⟩, rfl, ?_⟩
    intro x hx
    simp only [Ms.l, List.mem_cons, List.not_mem_nil, or_false] at hx
    rcases hx with rfl | rfl | rfl | rfl | rfl | rfl | rfl | rfl
    · exact i64_wf w0
    · exact i64_wf w1
    · exact i64_wf w2
    · exact i64_wf w3
    · exact w4
    · exact w5
    · exact w6
    · exact w7
set_option maxRecDepth 100000 in
theorem read_msv {base : Nat} {v : Value} {d : DataW H} {p : List MemPlace} (ho : Value.okWide Try.prog W .any base 34 v) (h : DataW.Trod enc Try.prog W 0 (fun _ => true) true 34 v d p) : ∃ m : Ms, v = .agg m.cs.toArray ∧ m.In := by
  obtain ⟨cs, rfl, hl⟩ := okWide_struct Try.underlying34 ho
  obtain ⟨fuel, hf⟩ := h
  rw [cellsMs] at hl
  obtain ⟨m, hc, hm⟩ := read_ms (cs := cs.toList) (by simpa using hl) (by simpa [Value.cells] using hf)
  exact ⟨m, by rw [← hc], hm⟩
set_option maxRecDepth 100000 in
theorem read_markv {base : Nat} {v : Value} {d : DataW H} {p : List MemPlace} (ho : Value.okWide Try.prog W .any base 23 v) (h : DataW.Trod enc Try.prog W 0 (fun _ => true) true 23 v d p) : ∃ a b c e : Int, v = .agg [.int .i64 a, .int .i64 b, .int .i64 c, .int .i64 e].toArray ∧ I64 a ∧ I64 b ∧ I64 c ∧ I64 e := by
  obtain ⟨cs, rfl, hl⟩ := okWide_struct Try.underlying23 ho
  obtain ⟨fuel, hf⟩ := h
  rw [cellsMark] at hl
  obtain ⟨a, b, c, e, hc, hm⟩ := read_mark (cs := cs.toList) (by simpa using hl) (by simpa [Value.cells] using hf)
  exact ⟨a, b, c, e, by rw [← hc], hm⟩
end

/-- a call that needs no memory -/
theorem call_of_spec0 {P : Program} {f : FuncId} {args : List Value} (W : World) (h : Spec P f args [] [] fun F v Rs' => v = .bool true ∧ Rs' = F) : Calls P f args.toArray W fun e W' => e = .returned (.bool true) ∧ Below W.heap.size W W' :=
  call_of_spec W fun w0 F w hw => (h w0 ((0, ro W) :: F) w hw).mono fun x w' ⟨v, Rs', h1, ⟨h2, h3⟩, h4⟩ => ⟨v, Rs', h1, ⟨h2, F, h3⟩, h4⟩
end Go.Gsl
