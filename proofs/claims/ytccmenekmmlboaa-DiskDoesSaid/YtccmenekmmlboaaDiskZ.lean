/- How long the slices within a script are. -/
import Derived.Test.YtccmenekmmlboaaDiskR
namespace Go.Gsl
set_option linter.unusedVariables false
open Go.Proofs Go.RowKit Go.ChangeShapes Go.WideShapes

section
variable {H : Type} {enc : TypeId × Value → H} {W : World} {base : Nat} {fuel : Nat}

theorem weightsAll_mem {P : Program} {e : TypeId} {d : DataW H} {n : Nat} : ∀ {ds : List (DataW H)}, d ∈ ds → n ∈ d.weights P e → n ∈ DataW.weightsAll P e ds
  | [], hd, _ => by simp at hd
  | d0 :: ds, hd, hn => by
    rw [DataW.weightsAll, List.mem_append]
    rcases List.mem_cons.1 hd with rfl | h
    · exact .inl hn
    · exact .inr (weightsAll_mem h hn)

theorem read_field_z {P : Program} {t : TypeId} {fs : Array Field} {cs : List Value} {x : DataW H × List MemPlace} (hu : P.underlying t = some (.struct fs)) (h : DataW.trod enc P W 0 (fun _ => true) true fuel t cs = some x) :
    ∃ n parts, x.1 = .agg parts ∧ ∀ (i off ft : Nat), (fs[i]?).map (fun f => (f.offset, f.type)) = some (off, ft) → P.cellsOf ft = 1 → off < P.cellsOf t → ∃ c y, cs[off]? = some c ∧ DataW.trod enc P W 0 (fun _ => true) true n ft [c] = some y ∧ parts[i]? = some y.1 := by
  obtain ⟨xs, n, _, hx, hl, hlen, hf⟩ := DataW.trod_struct hu h
  refine ⟨n, xs.map (·.1), by rw [hx], fun i off ft hi hc ho => ?_⟩
  obtain ⟨f, hfi, he⟩ := Option.map_eq_some_iff.1 hi
  simp only [Prod.mk.injEq] at he
  obtain ⟨rfl, rfl⟩ := he
  have h1 := hf i f hfi
  rw [hc] at h1
  have hlt : f.offset < cs.length := by omega
  have h2 : (cs.drop f.offset).take 1 = [cs[f.offset]] := by
    rw [List.drop_eq_getElem_cons hlt]; rfl
  rw [h2] at h1
  have h3 : i < xs.length := by rw [hlen]; exact (Array.getElem?_eq_some_iff.1 hfi).1
  exact ⟨cs[f.offset], xs[i], by simp [hlt], by rw [h1]; simp [h3], by simp [h3]⟩

set_option maxRecDepth 100000 in
theorem read_op7z {cs : List Value} {x : DataW H × List MemPlace} (hl : cs.length = 7) (h : DataW.trod enc Try.prog W 0 (fun _ => true) true fuel 73 cs = some x) :
    ∃ o : Op7, cs = op7v o ∧ o.Wf W ∧ ((∀ n ∈ x.1.weights Try.prog 73, n ≤ reachBytes) → o.keep.length ≤ 140737488355328) := by
  obtain ⟨n, parts, hx, hf⟩ := read_field_z Try.underlying73 h
  obtain ⟨c0, y0, e0, h0, _⟩ := hf 0 0 3 rfl l2cInt (by rw [l2cOp]; omega)
  obtain ⟨c1, y1, e1, h1, _⟩ := hf 1 1 3 rfl l2cInt (by rw [l2cOp]; omega)
  obtain ⟨c2, y2, e2, h2, _⟩ := hf 2 2 5 rfl l2cU8 (by rw [l2cOp]; omega)
  obtain ⟨c3, y3, e3, h3, _⟩ := hf 3 3 5 rfl l2cU8 (by rw [l2cOp]; omega)
  obtain ⟨c4, y4, e4, h4, _⟩ := hf 4 4 3 rfl l2cInt (by rw [l2cOp]; omega)
  obtain ⟨c5, y5, e5, h5, g5⟩ := hf 5 5 67 rfl l2cBools (by rw [l2cOp]; omega)
  obtain ⟨c6, y6, e6, h6, _⟩ := hf 6 6 23 rfl l2cBytes (by rw [l2cOp]; omega)
  obtain ⟨d, rfl, w0⟩ := cell_int Try.underlying3 h0
  obtain ⟨t, rfl, w1⟩ := cell_int Try.underlying3 h1
  obtain ⟨a, rfl, w2⟩ := cell_int Try.underlying5 h2
  obtain ⟨b, rfl, w3⟩ := cell_int Try.underlying5 h3
  obtain ⟨m, rfl, w4⟩ := cell_int Try.underlying3 h4
  obtain ⟨ks, _, w5, s5⟩ := cell_slice (α := Bool) Value.bool (fun _ => True) Try.underlying67 l2cBool (fun fuel c y h => by obtain ⟨b, hb⟩ := cell_bool Try.underlying4 h; exact ⟨b, hb, trivial⟩) h5
  obtain ⟨xs, w6, w7, _⟩ := cell_slice (α := Int) (Value.int .u8) (fun x => 0 ≤ x ∧ x ≤ 255) Try.underlying23 l2cU8 (fun fuel c y h => by obtain ⟨b, hb, hw⟩ := cell_int Try.underlying5 h; exact ⟨b, hb, wf_u8 hw⟩) h6
  refine ⟨⟨d, t, a, b, m, c5, ks, c6, xs⟩, ?_, ⟨wf_i64 w0, wf_i64 w1, wf_u8 w2, wf_u8 w3, wf_i64 w4, w5, w7, w6⟩, fun hz => ?_⟩
  · match cs, hl with
    | [a0, a1, a2, a3, a4, a5, a6], _ =>
      simp at e0 e1 e2 e3 e4 e5 e6
      subst e0 e1 e2 e3 e4 e5 e6
      rfl
  · show ks.length ≤ _
    rcases s5 with rfl | ⟨es, sp, he, hlen⟩
    · simp
    · have h8 : (es.length + sp.length) * Try.prog.bytesOf 4 ∈ x.1.weights Try.prog 73 := by
        rw [hx, DataW.weights, Try.underlying73]
        refine DataW.weights_mem_each (j := 5) (t := 67) (d := y5.1) rfl g5 _ ?_
        rw [he, DataW.weights, Try.underlying67]
        exact List.mem_cons_self
      have h9 := hz _ h8
      rw [l2bBool] at h9
      have := reachBytes_lt
      omega

set_option maxRecDepth 100000 in
theorem read_ops7_sz {ts : List TypeId} {ds : List (DataW H)} {j : Nat} {v : Value} {d : DataW H} {p : List MemPlace} (hz : (DataW.weightsEach Try.prog ts ds).all (· ≤ reachBytes) = true) (ht : ts[j]? = some 66) (hd : ds[j]? = some d)
    (ho : Value.okWide Try.prog W .any base 66 v) (h : DataW.Trod enc Try.prog W 0 (fun _ => true) true 66 v d p) :
    ∃ a os c, v = .slice a (os : List Op7).length c ∧ Ops7 W a os ∧ os.length ≤ maxLen ∧ ∀ k (h : k < os.length), os[k].keep.length ≤ 140737488355328 := by
  obtain ⟨a0, len0, cap0, rfl⟩ := okWide_slice Try.underlying66 ho
  obtain ⟨fuel, hf⟩ := h
  rcases Deep.open_slice Try.underlying66 hf with ⟨hcs, _⟩ | ⟨a, len, cap, m, n, D, Pl, hcs, _, hl, hm, hme, hx, hel⟩
  · simp [Value.cells] at hcs
    obtain ⟨rfl, rfl, rfl⟩ := hcs
    refine ⟨none, [], 0, rfl, ?_, Nat.zero_le _, ?_⟩ <;> (intro k hk; cases hk)
  · simp [Value.cells] at hcs
    obtain ⟨rfl, rfl, rfl⟩ := hcs
    simp only [if_true] at hme
    rw [l2cOp] at hel
    have hdx : d = .slice ((List.range len0).map D) ((List.range (m - len0)).map fun j => D (len0 + j)) := congrArg Prod.fst hx
    have hwt : ∀ i, i < len0 → ∀ n ∈ (D i).weights Try.prog 73, n ≤ reachBytes := fun i hi n hn => by
      have h1 : n ∈ d.weights Try.prog 66 := by
        rw [hdx, DataW.weights, Try.underlying66]
        exact List.mem_cons_of_mem _ (List.mem_append_left _ (weightsAll_mem (List.mem_map.2 ⟨i, List.mem_range.2 hi, rfl⟩) hn))
      have := List.all_eq_true.1 hz _ (DataW.weights_mem_each ht hd n h1)
      simpa using this
    have hch : ∀ i, i < len0 → ∃ o : Op7, CellsAt W (a.add (i * 7)) (op7v o) ∧ o.Wf W ∧ o.keep.length ≤ 140737488355328 := by
      intro i hi
      obtain ⟨es, hes, hd⟩ := hel i (by omega)
      obtain ⟨g1, g2⟩ := cells_at hes
      obtain ⟨o, rfl, hw, hk⟩ := read_op7z g1 hd
      exact ⟨o, g2, hw, hk (hwt i hi)⟩
    obtain ⟨g, hg⟩ := Deep.choose_lt hch
    refine ⟨some a, (List.range len0).map g, cap0, by simp, ?_, ?_, ?_⟩
    · intro k hk
      simp only [List.length_map, List.length_range] at hk
      have h0 := (hg 0 (by omega)).1
      rw [Nat.zero_mul, show a.add 0 = a by simp [Addr.add]] at h0
      have ha := cells_plain (m := 6) rfl h0
      refine ⟨by simpa using (hg k hk).2.1, a.block, a.off, by rw [← ha], fun j v hj => ?_⟩
      have h1 := (hg k hk).1 j v (by simpa using hj)
      rw [ha, add_plain, add_plain] at h1
      exact h1
    · simp only [List.length_map, List.length_range]
      omega
    · intro k hk
      simp only [List.length_map, List.length_range] at hk
      simpa using (hg k hk).2.2
end
end Go.Gsl
