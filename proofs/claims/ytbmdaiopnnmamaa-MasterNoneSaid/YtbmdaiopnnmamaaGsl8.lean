/- Readings of arguments, as the walks ask them; from a contract to a call. -/
import Derived.Test.YtbmdaiopnnmamaaGsl7
import Derived.ProofKit
import Derived.Deep.Slices
import Derived.Below
namespace Go.Gsl
set_option linter.unusedVariables false
open Go.ChangeShapes Go.WideShapes Go.RowKit

section
variable {H : Type} {enc : TypeId × Value → H} {P : Program} {W : World} {base : Nat} {t : TypeId} {v : Value} {d : DataW H} {p : List MemPlace}

/-- A law's contract, as the row wants it. -/
theorem call_of_spec {f : FuncId} {args : List Value} (W : World) (h : Spec P f args [0] [ro W] fun _ v Rs' => v = .bool true ∧ ∃ G, Rs' = (0, ro W) :: G) :
    Calls P f args.toArray W fun e W' => e = .returned (.bool true) ∧ Below W.heap.size W W' := by
  refine (h W [] W (by simpa using sat_start W)).mono ?_
  rintro e W' ⟨v, Rs', rfl, ⟨rfl, G, rfl⟩, hs⟩
  exact ⟨rfl, below_of_sat (F := G) hs⟩

theorem read_int {k : IntKind} (hu : P.underlying t = some (.int k)) (ho : Value.okWide P W .any base t v) (h : DataW.Trod enc P W 0 (fun _ => true) true t v d p) : ∃ n, v = .int k n ∧ (Lit.int k n).wf = true := by
  obtain ⟨x, rfl, _, _, wx⟩ := open_int hu ho h
  exact ⟨x, rfl, wx⟩
theorem read_bool (hu : P.underlying t = some .bool) (ho : Value.okWide P W .any base t v) (h : DataW.Trod enc P W 0 (fun _ => true) true t v d p) : ∃ b, v = .bool b := by
  obtain ⟨x, rfl, _, _⟩ := open_bool hu ho h
  exact ⟨x, rfl⟩

/-- cells in a row -/
def CellsAt (W : World) (a : Addr) (vs : List Value) : Prop := ∀ j v, vs[j]? = some v → W.cell? (a.add j) = some v

theorem mapM_some {α β : Type} (f : α → Option β) : ∀ (l : List α) (r : List β), l.mapM f = some r → r.length = l.length ∧ ∀ (j : Nat) (x : α), l[j]? = some x → f x = r[j]?
  | [], r, h => by simp at h; subst h; simp
  | x :: l, r, h => by
    simp only [List.mapM_cons, Option.bind_eq_bind, Option.pure_def] at h
    cases hx : f x with
    | none => rw [hx] at h; simp at h
    | some y =>
      rw [hx] at h
      simp only [Option.bind_some] at h
      cases hl : l.mapM f with
      | none => rw [hl] at h; simp at h
      | some ys =>
        rw [hl] at h
        simp only [Option.bind_some, Option.some.injEq] at h
        subst h
        obtain ⟨h1, h2⟩ := mapM_some f l ys hl
        refine ⟨by simp [h1], fun j z hz => ?_⟩
        cases j with
        | zero => simp at hz; subst hz; simp [hx]
        | succ j => simpa using h2 j z (by simpa using hz)

theorem cells_at {a : Addr} {n : Nat} {es : List Value} (h : W.cells? base a n = some es) : es.length = n ∧ CellsAt W a es := by
  unfold World.cells? at h
  split at h
  · obtain ⟨h1, h2⟩ := mapM_some _ _ _ h
    simp only [List.length_range] at h1
    refine ⟨h1, fun j v hj => ?_⟩
    have hlt : j < n := by
      have := (List.getElem?_eq_some_iff.1 hj).1
      omega
    have := h2 j j (by simp [hlt])
    rw [this, hj]
  · cases h

/-- a slice that came in: nil, or rows of cells, each with its reading -/
theorem read_slice {e : TypeId} (hu : P.underlying t = some (.slice e)) (ho : Value.okWide P W .any base t v) (h : DataW.Trod enc P W 0 (fun _ => true) true t v d p) :
    v = .slice none 0 0 ∨ ∃ (a : Addr) (len cap : Nat) (fuel : Nat), v = .slice (some a) len cap ∧ len ≤ cap ∧ cap ≤ maxLen ∧ ∀ i, i < len → ∃ es y, es.length = P.cellsOf e ∧ CellsAt W (a.add (i * P.cellsOf e)) es ∧ DataW.trod enc P W 0 (fun _ => true) true fuel e es = some y := by
  obtain ⟨a0, len, cap, rfl⟩ := okWide_slice hu ho
  obtain ⟨fuel, hf⟩ := h
  rcases Deep.open_slice hu hf with ⟨hcs, _⟩ | ⟨a, len', cap', m, n, D, Pl, hcs, _, hl, hm, hme, _, hel⟩
  · simp [Value.cells] at hcs
    obtain ⟨rfl, rfl, rfl⟩ := hcs
    exact .inl rfl
  · simp [Value.cells] at hcs
    obtain ⟨rfl, rfl, rfl⟩ := hcs
    refine .inr ⟨a, len, cap, n, rfl, hl, hm, fun i hi => ?_⟩
    simp only [if_true] at hme
    obtain ⟨es, hes, hd⟩ := hel i (by omega)
    obtain ⟨h1, h2⟩ := cells_at hes
    exact ⟨es, _, h1, h2, hd⟩

/-- one field of a struct's cells -/
theorem read_field {fs : Array Field} {cs : List Value} {fuel : Nat} {x : DataW H × List MemPlace} (hu : P.underlying t = some (.struct fs)) (h : DataW.trod enc P W 0 (fun _ => true) true fuel t cs = some x) :
    ∃ n, ∀ (i off ft : Nat), (fs[i]?).map (fun f => (f.offset, f.type)) = some (off, ft) → P.cellsOf ft = 1 → off < P.cellsOf t → ∃ c y, cs[off]? = some c ∧ DataW.trod enc P W 0 (fun _ => true) true n ft [c] = some y := by
  obtain ⟨xs, n, _, _, hl, hlen, hf⟩ := DataW.trod_struct hu h
  refine ⟨n, fun i off ft hi hc ho => ?_⟩
  obtain ⟨f, hfi, he⟩ := Option.map_eq_some_iff.1 hi
  simp only [Prod.mk.injEq] at he
  obtain ⟨rfl, rfl⟩ := he
  have h1 := hf i f hfi
  rw [hc] at h1
  have hlt : f.offset < cs.length := by omega
  have h2 : (cs.drop f.offset).take 1 = [cs[f.offset]] := by
    rw [List.drop_eq_getElem_cons hlt]; rfl
  rw [h2] at h1
  have h3 : i < xs.length := by rw [hlen]; exact (Array.getElem?_eq_some_iff.1 hfi).1
  exact ⟨cs[f.offset], xs[i], by simp [hlt], by rw [h1]; simp [h3]⟩

theorem cell_spot {a : Addr} {v : Value} (h : W.cell? a = some v) : a.spot = none := by
  unfold World.cell? at h
  split at h
  · split at h
    · cases h
    · rename_i hs; simpa using hs
  · cases h

theorem add_plain (b off i : Nat) : Addr.add ⟨b, off, none⟩ i = ⟨b, off + i, none⟩ := by
  unfold Addr.add; split
  · rename_i h; subst h; rfl
  · rfl

theorem cells_plain {a : Addr} {vs : List Value} {m : Nat} (hm : vs.length = m + 1) (h : CellsAt W a vs) : a = ⟨a.block, a.off, none⟩ := by
  have h0 := h 0 (vs[0]'(by omega)) (by simp)
  have h1 : Addr.add a 0 = a := by simp [Addr.add]
  rw [h1] at h0
  have := cell_spot h0
  obtain ⟨b, o, s⟩ := a
  simp at this
  subst this; rfl

theorem cell_int {cs : Value} {fuel : Nat} {k : IntKind} {y : DataW H × List MemPlace} (hu : P.underlying t = some (.int k)) (h : DataW.trod enc P W 0 (fun _ => true) true fuel t [cs] = some y) : ∃ n, cs = .int k n ∧ (Lit.int k n).wf = true := by
  obtain ⟨n, hn, _, hw⟩ := DataW.trod_int hu h
  exact ⟨n, by simpa using hn, hw⟩
theorem cell_bool {cs : Value} {fuel : Nat} {y : DataW H × List MemPlace} (hu : P.underlying t = some .bool) (h : DataW.trod enc P W 0 (fun _ => true) true fuel t [cs] = some y) : ∃ b, cs = .bool b := by
  obtain ⟨n, hn, _⟩ := DataW.trod_bool hu h
  exact ⟨n, by simpa using hn⟩

end
end Go.Gsl
