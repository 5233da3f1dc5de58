/- The library's sort of ints: from the kit's contract to one over resources. -/
import Derived.Test.YtbmdaiopnnmamaaGsl12
import Derived.Shelf.Lay
import Derived.Shelf.Sort.Plain
import Derived.Shelf.Slices.In.SortNone
import Derived.Ground.NamesProg
namespace Go.Gsl
set_option linter.unusedVariables false
open Go.Proofs Go.Shelf

theorem Fits.grow {h : Hp} {w : World} {os : Array Obj} (hf : Fits h w) : Fits h (Sort.grow w os) := by
  intro k o f hk
  have := hf k o f hk
  have hlt := (Array.getElem?_eq_some_iff.1 this).1
  show (w.heap ++ os)[k]? = some o
  rw [Array.getElem?_append_left hlt]; exact this
theorem Sat.grow {w0 w : World} {Rs : List Res} {os : Array Obj} (h : Sat w0 w Rs) : Sat w0 (Sort.grow w os) Rs := by
  obtain ⟨h1, x, hf, hs⟩ := h
  exact ⟨h1, x, hf.grow, hs⟩

theorem putRow_eq {α : Type} [Inhabited α] {enc : α → Value} {w : World} {b : Nat} {xs ys : List α} {r : List Value} {t : TypeId} (hb : w.heap[b]? = some (.cells (xs.map enc ++ r).toArray t (0, 0))) (hl : ys.length = xs.length) :
    Sort.putRow enc w b 0 ys.toArray = { w with heap := w.heap.setIfInBounds b (.cells (ys.map enc ++ r).toArray t (0, 0)) } := by
  unfold Sort.putRow Sort.mapBlock
  congr 1
  obtain ⟨hlt, hg⟩ := Array.getElem?_eq_some_iff.1 hb
  apply Array.ext_getElem?
  intro j
  rw [Array.getElem?_modify, Array.getElem?_setIfInBounds]
  by_cases hj : b = j
  · subst hj
    simp only [hlt, if_true, hb, Option.map_some]
    congr 1
    show Obj.cells (Sort.putCells enc 0 ys.toArray (xs.map enc ++ r).toArray) t (0, 0) = Obj.cells (ys.map enc ++ r).toArray t (0, 0)
    congr 1
    unfold Sort.putCells
    apply Array.ext_getElem?
    intro k
    simp only [Array.getElem?_mapIdx, Nat.zero_add, Nat.zero_le, true_and, List.size_toArray, Nat.sub_zero, List.getElem?_toArray]
    by_cases hk : k < ys.length
    · have h1 : k < xs.length := by omega
      simp [hk, List.getElem?_append_left, h1]
    · have h1 : ¬ k < xs.length := by omega
      simp only [hk, if_false]
      rw [List.getElem?_append_right (by simp; omega), List.getElem?_append_right (by simp; omega)]
      simp [hl]
  · simp [hj]

abbrev leI : Int → Int → Bool := fun x y => decide (x ≤ y)

section
variable {P : Program} {ρ : Ren}
theorem sort_spec (Ly : Lays.n189 P ρ) (b c : Nat) (zs : List Int) (r : List Value) (t : TypeId) (hl : zs.length < 4611686018427387904) :
    Spec P (ρ.f 189) [.slice (some ⟨b, 0, none⟩) zs.length c] [b] [pts b (.cells (zs.map (Value.int .i64) ++ r).toArray t (0, 0))] fun F v Rs' => v = .tuple #[] ∧
      Rs' = (b, pts b (.cells ((zs.mergeSort leI).map (Value.int .i64) ++ r).toArray t (0, 0))) :: F := by
  intro w0 F w hw
  have hb := hw.get (Take.here b _ F)
  refine Calls.mono (Any.slices_Sort_int Ly b 0 c zs w ?_ (Array.getElem?_eq_some_iff.1 hb).1 hl) ?_
  · intro j hj
    simp only [List.size_toArray] at hj
    refine ⟨cell_of hb ?_, by simp [World.frozen?, hb]⟩
    simp [hj, List.getElem?_append_left]
  · rintro e w' ⟨rfl, n, os, rfl⟩
    refine ⟨_, _, rfl, ⟨rfl, rfl⟩, Sat.grow ?_⟩
    have hb2 : (Sort.ahead w n).heap[b]? = some (.cells (zs.map (Value.int .i64) ++ r).toArray t (0, 0)) := hb
    rw [putRow_eq hb2 (by simp)]
    exact (hw.draw (w.drawn + n)).set (Take.here b _ F) _

theorem sort_spec_nil (Ly : Lays.n189 P ρ) (a : Option Addr) (c : Nat) : Spec P (ρ.f 189) [.slice a 0 c] [] [] fun F v Rs' => v = .tuple #[] ∧ Rs' = F := by
  intro w0 F w hw
  refine Calls.mono (Any.slices_Sort_int_none Ly a c w) ?_
  rintro e w' ⟨rfl, rfl⟩
  exact ⟨_, _, rfl, ⟨rfl, rfl⟩, hw⟩
end
end Go.Gsl
