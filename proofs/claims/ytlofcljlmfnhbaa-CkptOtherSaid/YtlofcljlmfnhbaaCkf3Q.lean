/- The walk of CkptOther from what is handed in. -/
import Derived.Test.YtlofcljlmfnhbaaCkb3Q
import Derived.Test.YtlofcljlmfnhbaaCkf1Q
namespace Go.Gsl
set_option linter.unusedVariables false
open Go.Proofs Go.RowKit Go.ChangeShapes Go.WideShapes
section
variable {H : Type} {enc : TypeId × Value → H} {W : World} {base : Nat} {fuel : Nat}
theorem l19cBrk : Try.prog.cellsOf 63 = 2 := by kernel_rfl
theorem read_field_z19 {P : Program} {t : TypeId} {fs : Array Field} {cs : List Value} {x : DataW H × List MemPlace} (hu : P.underlying t = some (.struct fs)) (h : DataW.trod enc P W 0 (fun _ => true) true fuel t cs = some x) :
    ∃ n parts, x.1 = .agg parts ∧ ∀ (i off ft : Nat), (fs[i]?).map (fun f => (f.offset, f.type)) = some (off, ft) → P.cellsOf ft = 1 → off < P.cellsOf t → ∃ c y, cs[off]? = some c ∧ DataW.trod enc P W 0 (fun _ => true) true n ft [c] = some y ∧ parts[i]? = some y.1 := by
  obtain ⟨xs, n, _, hx, hl, hlen, hf⟩ := DataW.trod_struct hu h
  refine ⟨n, xs.map (·.1), by rw [hx], fun i off ft hi hc ho => ?_⟩
  obtain ⟨f, hfi, he⟩ := Option.map_eq_some_iff.1 hi
  simp only [Prod.mk.injEq] at he
  obtain ⟨rfl, rfl⟩ := he
  have h1 := hf i f hfi
  rw [hc] at h1
  have hlt : f.offset < cs.length := by omega
  have h2 : (cs.drop f.offset).take 1 = [cs[f.offset]] := by
    rw [List.drop_eq_getElem_cons hlt]; rfl
  rw [h2] at h1
  have h3 : i < xs.length := by rw [hlen]; exact (Array.getElem?_eq_some_iff.1 hfi).1
  exact ⟨cs[f.offset], xs[i], by simp [hlt], by rw [h1]; simp [h3], by simp [h3]⟩
set_option maxRecDepth 100000 in
theorem read_break_sz {ts : List TypeId} {ds : List (DataW H)} {j : Nat} {v : Value} {d : DataW H} {p : List MemPlace} (hz : (DataW.weightsEach Try.prog ts ds).all (· ≤ reachBytes) = true) (ht : ts[j]? = some 63) (hd : ds[j]? = some d)
    (ho : Value.okWide Try.prog W .any base 63 v) (h : DataW.Trod enc Try.prog W 0 (fun _ => true) true 63 v d p) :
    ∃ (u : Int) (kv : Value) (ks : List Bool), v = .agg #[.int .u8 u, kv] ∧ (0 ≤ u ∧ u ≤ 255) ∧ RdW W kv (ks.map Value.bool) ∧ ks.length ≤ 140737488355328 := by
  obtain ⟨cs, rfl, hl⟩ := okWide_struct Try.underlying63 ho
  obtain ⟨fuel, hf⟩ := h
  rw [l19cBrk] at hl
  have hf2 : DataW.trod enc Try.prog W 0 (fun _ => true) true fuel 63 cs.toList = some (d, p) := by simpa [Value.cells] using hf
  obtain ⟨n, parts, hx, hff⟩ := read_field_z19 Try.underlying63 hf2
  obtain ⟨c0, y0, e0, h0, _⟩ := hff 0 0 5 rfl l2cU8 (by rw [l19cBrk]; omega)
  obtain ⟨c1, y1, e1, h1, g1⟩ := hff 1 1 61 rfl l2cBools (by rw [l19cBrk]; omega)
  obtain ⟨u, rfl, w0⟩ := cell_int Try.underlying5 h0
  obtain ⟨ks, _, w1, s1⟩ := cell_slice (α := Bool) Value.bool (fun _ => True) Try.underlying61 l2cBool (fun fuel c y h => by obtain ⟨b, hb⟩ := cell_bool Try.underlying4 h; exact ⟨b, hb, trivial⟩) h1
  refine ⟨u, c1, ks, ?_, wf_u8 w0, w1, ?_⟩
  · have hcl : cs.toList.length = 2 := by simpa using hl
    congr 1
    apply Array.ext'
    match hcs : cs.toList, hcl with
    | [a0, a1], _ =>
      rw [hcs] at e0 e1
      simp at e0 e1
      subst e0 e1
      rfl
  · rcases s1 with rfl | ⟨es, sp, he, hlen⟩
    · simp
    · have h8 : (es.length + sp.length) * Try.prog.bytesOf 4 ∈ d.weights Try.prog 63 := by
        simp only at hx
        rw [hx, DataW.weights, Try.underlying63]
        refine DataW.weights_mem_each (j := 1) (t := 61) (d := y1.1) rfl g1 _ ?_
        rw [he, DataW.weights, Try.underlying61]
        exact List.mem_cons_self
      have h9 := List.all_eq_true.1 hz _ (DataW.weights_mem_each ht hd _ h8)
      rw [l2bBool] at h9
      have := reachBytes_lt
      simp only [decide_eq_true_eq] at h9
      omega
end
theorem other19_walk {W : World} {v v2 kv : Value} {l m : List Sp} {u : Int} {keep : List Bool} (hv : RdS (ro W) v l) (hb : SpsB l) (hl : l.length ≤ 9223372036854775807) (hv2 : RdS (ro W) v2 m) (hb2 : SpsB m) (hl2 : m.length ≤ 9223372036854775807) (hu : 0 ≤ u ∧ u ≤ 255) (hk : RdW W kv (keep.map Value.bool)) (hkl : keep.length ≤ 140737488355328) :
    Calls Try.prog 5 #[v, v2, .agg #[.int .u8 u, kv]] W fun e W' => e = .returned (.bool true) ∧ Below W.heap.size W W' :=
  call_of_spec W ((l19Other_ok 0 (ro W) v v2 kv l m u keep hv hb hl hv2 hb2 hl2 hu hk.bools hkl).mono fun F v Rs' h => ⟨h.1, F, h.2⟩)
end Go.Gsl
