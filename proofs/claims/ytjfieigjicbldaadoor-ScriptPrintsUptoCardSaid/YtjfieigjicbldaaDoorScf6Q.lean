/- Scripts that came in; the walk of ScriptBack from what is handed in. -/
import Derived.Test.YtjfieigjicbldaaDoorScf5Q
import Derived.Test.YtjfieigjicbldaaDoorGVG
namespace Go.Gsl
set_option linter.unusedVariables false
open Go.Proofs Go.RowKit Go.ChangeShapes Go.WideShapes
theorem list8 {l : List Value} (h : l.length = 8) : ∃ a b c d e f g i, l = [a, b, c, d, e, f, g, i] := by
  match l, h with
  | [a, b, c, d, e, f, g, i], _ => exact ⟨a, b, c, d, e, f, g, i, rfl⟩
theorem avC_len : ∀ l : List AV, (avC l).length = l.length * 9
  | [] => rfl
  | x :: l => by
    have e1 : avC (x :: l) = actC x.1 x.2 ++ avC l := by unfold avC; rw [List.flatMap_cons]
    have e2 : (actC x.1 x.2).length = 9 := rfl
    have e3 := avC_len l
    rw [e1, List.length_append, e2, e3, List.length_cons]
    omega
section
variable {H : Type} {enc : TypeId × Value → H} {W : World} {base : Nat} {fuel : Nat}
theorem read_acts {c : Value} {x : DataW H × List MemPlace} (h : DataW.trod enc Tryd.prog W 0 (fun _ => true) true fuel 24 [c] = some x) :
    ∃ l : List Act, (bulk x.1 ≤ 1048576 → RdAs (ro W) c l) ∧ (∀ a ∈ l, I64 a.n) ∧ sumSz l + 8 * l.length + 1 ≤ bulk x.1 := by
  rcases Deep.open_slice Tryd.underlying24 h with ⟨hcs, _⟩ | ⟨a, len, cap, m, n, D, Pl, hcs, _, hl, hm, hme, hx, hel⟩
  · obtain rfl : c = .slice none 0 0 := by simpa using hcs
    refine ⟨[], fun _ => RdAs.nil _, fun p h => (by cases h), ?_⟩
    have := bulk_pos x.1
    simpa [sumSz] using this
  · obtain rfl : c = .slice (some a) len cap := by simpa using hcs
    simp only [if_true] at hme
    rw [cAct] at hel
    haveI : Inhabited AV := ⟨(⟨0, 0, ⟨0, 0, [], [], [], []⟩, []⟩, .bool true)⟩
    have hch : ∀ i, i < len → ∃ y : AV, CellsAt W (a.add (i * 9)) (actC y.1 y.2) ∧ RdK (ro W) y.2 y.1.k ∧ I64 y.1.n ∧ y.1.sz + 8 ≤ bulk (D i) := by
      intro i hi
      obtain ⟨es, hes, ht⟩ := hel i (by omega)
      obtain ⟨h1, h2⟩ := cells_at hes
      obtain ⟨y, kv, rfl, hk, hn, hz⟩ := read_act h1 ht
      exact ⟨(y, kv), h2, hk, hn, hz⟩
    obtain ⟨g, hg⟩ := Deep.choose_lt hch
    have hpl : 0 < len → ∃ b o, a = ⟨b, o, none⟩ := fun h0 => by
      have h1 := (hg 0 h0).1
      rw [show a.add (0 * 9) = a by simp [Addr.add]] at h1
      exact ⟨a.block, a.off, cells_plain (m := 8) rfl h1⟩
    have hsum : (((List.range len).map g).map fun p => p.1.sz + 8).sum ≤ bulks ((List.range len).map D) := by
      rw [List.map_map]
      exact bulks_range D (fun i => (g i).1.sz + 8) len fun i hi => (hg i hi).2.2.2
    have hS : ∀ l : List AV, sumSz (l.map Prod.fst) + 8 * l.length = (l.map fun p => p.1.sz + 8).sum := by
      intro l
      induction l with
      | nil => rfl
      | cons p l ih => simp only [sumSz, List.map_cons, List.sum_cons, List.length_cons] at ih ⊢; omega
    have hmem : ∀ p ∈ (List.range len).map g, ∃ i, i < len ∧ g i = p := fun p hp => by
      obtain ⟨i, hi, rfl⟩ := List.mem_map.1 hp
      exact ⟨i, List.mem_range.1 hi, rfl⟩
    have hSS := hS ((List.range len).map g)
    have hbx : bulks ((List.range len).map D) + 1 ≤ bulk x.1 := by rw [hx, bulk_slice]; omega
    refine ⟨((List.range len).map g).map Prod.fst, fun hb => ⟨some a, cap, (List.range len).map g, by simp, rfl, fun h0 => ?_, reads_ro fun j u hj => ?_, fun p hp => ?_, fun p hp => ?_⟩, fun y hy => ?_, ?_⟩
    · obtain ⟨b, o, rfl⟩ := hpl (by simpa using h0)
      exact ⟨b, o, rfl⟩
    · have hlt : j < len * 9 := by
        have := (List.getElem?_eq_some_iff.1 hj).1
        simpa [avC_len] using this
      have hq : j / 9 < len := by omega
      have h1 := avC_at ((List.range len).map g) (j / 9) (g (j / 9)) (by simp [hq])
      have h2 : (actC (g (j / 9)).1 (g (j / 9)).2)[j % 9]? = some u := by
        rw [← h1, List.getElem?_take_of_lt (by omega), List.getElem?_drop, show j / 9 * 9 + j % 9 = j by omega]
        exact hj
      refine ⟨a, rfl, ?_⟩
      have h3 := (hg _ hq).1 (j % 9) u h2
      obtain ⟨b, o, rfl⟩ := hpl (by omega)
      rw [add_plain, add_plain] at h3
      rw [add_plain]
      have e : o + j / 9 * 9 + j % 9 = o + j := by omega
      rw [e] at h3
      exact h3
    · obtain ⟨i, hi, rfl⟩ := hmem p hp
      exact (hg i hi).2.1
    · obtain ⟨i, hi, rfl⟩ := hmem p hp
      have h1 := (hg i hi).2.2.2
      have h2 : ∀ (n : Nat) (f : Nat → Nat) (i : Nat), i < n → f i ≤ ((List.range n).map f).sum := by
        intro n f
        induction n with
        | zero => intro i h; omega
        | succ n ih =>
          intro i h
          rw [List.range_succ, List.map_append, List.sum_append]
          simp only [List.map_cons, List.map_nil, List.sum_cons, List.sum_nil]
          rcases Nat.lt_succ_iff_lt_or_eq.1 h with h | rfl
          · have := ih i h; omega
          · omega
      have h3 := h2 len (fun i => (g i).1.sz + 8) i hi
      rw [List.map_map] at hsum
      have h4 : (g i).1.sz + 8 ≤ bulk x.1 := by
        have : ((List.range len).map ((fun p : AV => p.1.sz + 8) ∘ g)).sum = ((List.range len).map fun i => (g i).1.sz + 8).sum := rfl
        omega
      unfold Act.sz Call.sz at h4
      omega
    · obtain ⟨p, hp, rfl⟩ := List.mem_map.1 hy
      obtain ⟨i, hi, rfl⟩ := hmem p hp
      exact (hg i hi).2.2.1
    · have e1 : (((List.range len).map g).map Prod.fst).length = ((List.range len).map g).length := by simp
      rw [e1]
      omega
set_option maxRecDepth 100000 in
theorem read_scriptV {v : Value} {d : DataW H} {p : List MemPlace} (ho : Value.okWide Tryd.prog W .any base 26 v) (h : DataW.Trod enc Tryd.prog W 0 (fun _ => true) true 26 v d p) :
    ∃ (c0 c1 c2 c3 c4 c5 c6 : Int) (va : Value) (l : List Act), v = .agg ([.int .i64 c0, .int .i64 c1, .int .i64 c2, .int .i64 c3, .int .i64 c4, .int .i64 c5, .int .i64 c6, va] : List Value).toArray ∧
      (I64 c0 ∧ I64 c1 ∧ I64 c2 ∧ I64 c3 ∧ I64 c4 ∧ I64 c5 ∧ I64 c6) ∧ (bulk d ≤ 1048576 → RdAs (ro W) va l) ∧ (∀ a ∈ l, I64 a.n) ∧ sumSz l + 8 * l.length + 1 ≤ bulk d := by
  obtain ⟨cs, rfl, hl⟩ := okWide_struct Tryd.underlying26 ho
  obtain ⟨fuel, hf⟩ := h
  rw [cScript] at hl
  have hf2 : DataW.trod enc Tryd.prog W 0 (fun _ => true) true fuel 26 cs.toList = some (d, p) := by simpa [Value.cells] using hf
  obtain ⟨c0, c1, c2, c3, c4, c5, c6, c7, hcs⟩ := list8 (l := cs.toList) (by simpa using hl)
  obtain rfl : cs = ([c0, c1, c2, c3, c4, c5, c6, c7] : List Value).toArray := by rw [← hcs]
  obtain ⟨n, parts, hx, hpl, hff⟩ := read_fieldN Tryd.underlying26 hf2
  obtain ⟨y0, h0, g0⟩ := hff 0 0 23 7 rfl cConfig
  obtain ⟨y1, h1, g1⟩ := hff 1 7 24 1 rfl cActs
  obtain ⟨n', parts', hx', hpl', hff'⟩ := read_fieldN Tryd.underlying23 h0
  obtain ⟨z0, k0, _⟩ := hff' 0 0 3 1 rfl cInt
  obtain ⟨z1, k1, _⟩ := hff' 1 1 3 1 rfl cInt
  obtain ⟨z2, k2, _⟩ := hff' 2 2 3 1 rfl cInt
  obtain ⟨z3, k3, _⟩ := hff' 3 3 3 1 rfl cInt
  obtain ⟨z4, k4, _⟩ := hff' 4 4 3 1 rfl cInt
  obtain ⟨z5, k5, _⟩ := hff' 5 5 3 1 rfl cInt
  obtain ⟨z6, k6, _⟩ := hff' 6 6 3 1 rfl cInt
  obtain ⟨i0, e0, b0⟩ := cellI k0
  obtain ⟨i1, e1, b1⟩ := cellI k1
  obtain ⟨i2, e2, b2⟩ := cellI k2
  obtain ⟨i3, e3, b3⟩ := cellI k3
  obtain ⟨i4, e4, b4⟩ := cellI k4
  obtain ⟨i5, e5, b5⟩ := cellI k5
  obtain ⟨i6, e6, b6⟩ := cellI k6
  simp only [List.drop_zero, List.drop_succ_cons, List.take_succ_cons, List.take_zero, List.cons.injEq, and_true] at e0 e1 e2 e3 e4 e5 e6
  subst e0 e1 e2 e3 e4 e5 e6
  have p1 := parts2 (by rw [hpl]; rfl) g0 g1
  have hbd : bulk y0.1 + bulk y1.1 + 1 = bulk d := by
    have : d = _ := hx
    rw [this, bulk_agg, p1]
    simp only [bulks_cons, bulks_nil]
    omega
  obtain ⟨l, hA, hn, hs⟩ := read_acts (c := c7) (by simpa using h1)
  exact ⟨i0, i1, i2, i3, i4, i5, i6, c7, l, rfl, ⟨b0, b1, b2, b3, b4, b5, b6⟩, fun h => hA (by omega), hn, by omega⟩
end
theorem smalls_of {l : List Act} {n : Nat} (h : sumSz l + 8 * l.length + 1 ≤ n) (hn : ∀ a ∈ l, I64 a.n) (hb : n ≤ 1048576) : ∀ a ∈ l, a.small := fun a ha => small_sz (hn a ha) (by have := sz_le ha; omega)
theorem back26_walk {W : World} (hL : laidMetH Tryd.prog laidL W) {c0 c1 c2 c3 c4 c5 c6 : Int} {va : Value} {l : List Act} {s : Bs} {m n : Nat} (hc : I64 c0 ∧ I64 c1 ∧ I64 c2 ∧ I64 c3 ∧ I64 c4 ∧ I64 c5 ∧ I64 c6) (hA : m ≤ 1048576 → RdAs (ro W) va l) (hn : ∀ a ∈ l, I64 a.n)
    (hm : sumSz l + 8 * l.length + 1 ≤ m) (hs : s.length ≤ n) (hb : m + n ≤ 1048576) :
    Calls Tryd.prog 8 #[.agg ([.int .i64 c0, .int .i64 c1, .int .i64 c2, .int .i64 c3, .int .i64 c4, .int .i64 c5, .int .i64 c6, va] : List Value).toArray, .string (sB s)] W fun e W' => e = .returned (.bool true) ∧ Below W.heap.size W W' :=
  call_of_spec W ((l26Back_ok W (laid_tabs hL) c0 c1 c2 c3 c4 c5 c6 hc.1 hc.2.1 hc.2.2.1 hc.2.2.2.1 hc.2.2.2.2.1 hc.2.2.2.2.2.1 hc.2.2.2.2.2.2 va l (hA (by omega)) (smalls_of hm hn (by omega)) (by omega) (by omega) s (by omega)).mono fun F v Rs' h => ⟨h.1, F, h.2⟩)
end Go.Gsl
