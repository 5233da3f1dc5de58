/- What the disk's statements are handed. -/
import Derived.Test.YtbmdaiopnnmamaaGD
import Derived.Test.YtbmdaiopnnmamaaGA
import Derived.SizedLaws
namespace Go.Gsl
set_option linter.unusedVariables false
open Go.Proofs Go.RowKit Go.ChangeShapes Go.WideShapes

/-- one operation of a script -/
structure Op7 where
  d : Int
  at' : Int
  a : Int
  b : Int
  n : Int
  kv : Value
  keep : List Bool
  ov : Value
  odd : List Int

instance : Inhabited Op7 := ⟨⟨0, 0, 0, 0, 0, .slice none 0 0, [], .slice none 0 0, []⟩⟩
abbrev op7v (o : Op7) : List Value := [.int .i64 o.d, .int .i64 o.at', .int .u8 o.a, .int .u8 o.b, .int .i64 o.n, o.kv, o.ov]

/-- a slice that came in: its elements can be read -/
def RdW (W : World) (v : Value) (vs : List Value) : Prop := ∃ a c, v = .slice a vs.length c ∧ vs.length ≤ maxLen ∧ (0 < vs.length → ∃ b o, a = some ⟨b, o, none⟩) ∧ ∀ j u, vs[j]? = some u → ∃ ad, a = some ad ∧ W.cell? (ad.add j) = some u

theorem RdW.reads {W : World} {a : Option Addr} {m c : Nat} {vs : List Value} (h : RdW W (.slice a m c) vs) : m = vs.length ∧ (0 < vs.length → ∃ b o, a = some ⟨b, o, none⟩) ∧ Reads (ro W) a vs := by
  obtain ⟨a', c', e, _, h1, h2⟩ := h
  cases e
  exact ⟨rfl, h1, reads_ro h2⟩
theorem RdW.bools {W : World} {v : Value} {bs : List Bool} (h : RdW W v (bs.map Value.bool)) : RdBools (ro W) v bs := by
  obtain ⟨a, c, rfl, _, h1, h2⟩ := h
  rw [List.length_map] at h1 ⊢
  exact ⟨a, c, rfl, h1, reads_ro h2⟩

theorem RdW.one {W : World} {v : Value} {vs : List Value} (h : RdW W v vs) : One v := by
  obtain ⟨a, c, rfl, _⟩ := h
  exact ⟨rfl⟩

structure Op7.Wf (W : World) (o : Op7) : Prop where
  d : -9223372036854775808 ≤ o.d ∧ o.d ≤ 9223372036854775807
  at' : -9223372036854775808 ≤ o.at' ∧ o.at' ≤ 9223372036854775807
  a : 0 ≤ o.a ∧ o.a ≤ 255
  b : 0 ≤ o.b ∧ o.b ≤ 255
  n : -9223372036854775808 ≤ o.n ∧ o.n ≤ 9223372036854775807
  keep : RdW W o.kv (o.keep.map Value.bool)
  odd : RdW W o.ov (o.odd.map (Value.int .u8))
  oddb : ∀ x ∈ o.odd, 0 ≤ x ∧ x ≤ 255

def Ops7 (W : World) (a : Option Addr) (os : List Op7) : Prop :=
  ∀ k (h : k < os.length), os[k].Wf W ∧ ∃ b off, a = some ⟨b, off, none⟩ ∧ ∀ j v, (op7v os[k])[j]? = some v → W.cell? ⟨b, off + k * 7 + j, none⟩ = some v

theorem wf_i64 {n : Int} (h : (Lit.int .i64 n).wf = true) : -9223372036854775808 ≤ n ∧ n ≤ 9223372036854775807 := by
  simp only [Lit.wf, Bool.and_eq_true, decide_eq_true_eq] at h
  rw [show IntKind.i64.min = -9223372036854775808 from rfl, show IntKind.i64.max = 9223372036854775807 from rfl] at h
  exact h
theorem wf_u8 {n : Int} (h : (Lit.int .u8 n).wf = true) : 0 ≤ n ∧ n ≤ 255 := by
  simp only [Lit.wf, Bool.and_eq_true, decide_eq_true_eq] at h
  rw [show IntKind.u8.min = 0 from rfl, show IntKind.u8.max = 255 from rfl] at h
  exact h

section
variable {H : Type} {enc : TypeId × Value → H} {W : World} {base : Nat} {fuel : Nat}

/-- a slice among the cells of a struct, of elements of one cell -/
theorem cell_slice {P : Program} {t e : TypeId} {c : Value} {y : DataW H × List MemPlace} {α : Type} [Inhabited α] (E : α → Value) (pr : α → Prop) (hu : P.underlying t = some (.slice e)) (hc : P.cellsOf e = 1)
    (he : ∀ fuel c y, DataW.trod enc P W 0 (fun _ => true) true fuel e [c] = some y → ∃ x, c = E x ∧ pr x) (h : DataW.trod enc P W 0 (fun _ => true) true fuel t [c] = some y) : ∃ xs : List α, (∀ x ∈ xs, pr x) ∧ RdW W c (xs.map E) ∧ (xs = [] ∨ ∃ es sp, y.1 = .slice es sp ∧ es.length = xs.length) := by
  rcases Deep.open_slice hu h with ⟨hcs, _⟩ | ⟨a, len, cap, m, n, D, Pl, hcs, _, hl, hm, hme, hx, hel⟩
  · obtain rfl : c = .slice none 0 0 := by simpa using hcs
    exact ⟨[], by simp, ⟨none, 0, rfl, Nat.zero_le _, fun h => by simp at h, by simp⟩, .inl rfl⟩
  · obtain rfl : c = .slice (some a) len cap := by simpa using hcs
    simp only [if_true] at hme
    rw [hc] at hel
    have hch : ∀ i, i < len → ∃ x : α, pr x ∧ CellsAt W (a.add i) [E x] := by
      intro i hi
      obtain ⟨es, hes, hd⟩ := hel i (by omega)
      obtain ⟨h1, h2⟩ := cells_at hes
      match es, h1 with
      | [e0], _ =>
        obtain ⟨x, rfl, hp⟩ := he _ _ _ hd
        exact ⟨x, hp, by simpa using h2⟩
    obtain ⟨g, hg⟩ := Deep.choose_lt hch
    refine ⟨(List.range len).map g, fun x hx => ?_, ⟨some a, cap, by simp, by simp; omega, fun h0 => ?_, fun j u hj => ?_⟩, .inr ⟨_, _, by rw [hx], by simp⟩⟩
    · obtain ⟨i, hi, rfl⟩ := List.mem_map.1 hx
      exact (hg i (List.mem_range.1 hi)).1
    · have h1 := (hg 0 (by simpa using h0)).2
      rw [show a.add 0 = a by simp [Addr.add]] at h1
      exact ⟨a.block, a.off, by rw [← cells_plain (m := 0) rfl h1]⟩
    · have hlt : j < len := by have := (List.getElem?_eq_some_iff.1 hj).1; simpa using this
      simp only [List.map_map, List.getElem?_map, List.getElem?_range hlt, Option.map_some, Function.comp, Option.some.injEq] at hj
      subst hj
      have h1 := (hg j hlt).2 0 (E (g j)) rfl
      refine ⟨a, rfl, ?_⟩
      have h0 := (hg 0 (by omega)).2
      rw [show a.add 0 = a by simp [Addr.add]] at h0
      have ha := cells_plain (m := 0) rfl h0
      rw [ha, add_plain] at h1 ⊢
      rw [add_plain] at h1
      simpa using h1

theorem l2cU8 : Try.prog.cellsOf 5 = 1 := by kernel_rfl
theorem l2cInt : Try.prog.cellsOf 3 = 1 := by kernel_rfl
theorem l2cBool : Try.prog.cellsOf 4 = 1 := by kernel_rfl
theorem l2cBools : Try.prog.cellsOf 43 = 1 := by kernel_rfl
theorem l2cBytes : Try.prog.cellsOf 24 = 1 := by kernel_rfl
set_option maxRecDepth 100000 in
theorem read_bools {v : Value} {d : DataW H} {p : List MemPlace} (ho : Value.okWide Try.prog W .any base 43 v) (h : DataW.Trod enc Try.prog W 0 (fun _ => true) true 43 v d p) :
    ∃ bs : List Bool, RdW W v (bs.map Value.bool) := by
  obtain ⟨a0, len, cap, rfl⟩ := okWide_slice Try.underlying43 ho
  obtain ⟨fuel, hf⟩ := h
  obtain ⟨bs, _, h, _⟩ := cell_slice (α := Bool) Value.bool (fun _ => True) Try.underlying43 l2cBool (fun fuel c y h => by obtain ⟨b, hb⟩ := cell_bool Try.underlying4 h; exact ⟨b, hb, trivial⟩) (by simpa [Value.cells] using hf)
  exact ⟨bs, h⟩
theorem l2bBool : Try.prog.bytesOf 4 = 1 := by kernel_rfl
set_option maxRecDepth 100000 in
theorem read_bools_sz {ts : List TypeId} {ds : List (DataW H)} {j : Nat} {v : Value} {d : DataW H} {p : List MemPlace} (hz : (DataW.weightsEach Try.prog ts ds).all (· ≤ reachBytes) = true) (ht : ts[j]? = some 43) (hd : ds[j]? = some d)
    (ho : Value.okWide Try.prog W .any base 43 v) (h : DataW.Trod enc Try.prog W 0 (fun _ => true) true 43 v d p) : ∃ bs : List Bool, RdW W v (bs.map Value.bool) ∧ bs.length ≤ 140737488355328 := by
  obtain ⟨a0, len, cap, rfl⟩ := okWide_slice Try.underlying43 ho
  obtain ⟨fuel, hf⟩ := h
  obtain ⟨bs, _, h, hs⟩ := cell_slice (α := Bool) Value.bool (fun _ => True) Try.underlying43 l2cBool (fun fuel c y h => by obtain ⟨b, hb⟩ := cell_bool Try.underlying4 h; exact ⟨b, hb, trivial⟩) (by simpa [Value.cells] using hf)
  refine ⟨bs, h, ?_⟩
  rcases hs with rfl | ⟨es, sp, he, hl⟩
  · simp
  · simp only at he
    subst he
    have h1 := sized_slice hz ht hd Try.underlying43
    rw [l2bBool] at h1
    have h2 := reachBytes_lt
    omega
end
end Go.Gsl
