/- MasterDoes: what is handed in. -/
import Derived.Test.YtbmdaiopnnmamaaGreatDoDQ
namespace Go.Gsl
set_option linter.unusedVariables false
open Go.Proofs Go.RowKit Go.ChangeShapes Go.WideShapes

section
variable {H : Type} {enc : TypeId × Value → H} {W : World} {base : Nat} {fuel : Nat}
theorem cellsOp13 : Tryz.prog.cellsOf 39 = 13 := by kernel_rfl

set_option maxRecDepth 100000 in
theorem read_op13z {cs : List Value} {x : DataW H × List MemPlace} (hl : cs.length = 13) (h : DataW.trod enc Tryz.prog W 0 (fun _ => true) true fuel 39 cs = some x) :
    ∃ o : Op13, cs = op13v o ∧ o.Wf W ∧ ((∀ n ∈ x.1.weights Tryz.prog 39, n ≤ reachBytes) → o.keep.length ≤ 140737488355328) := by
  obtain ⟨n, parts, hx, hf⟩ := read_field_z Tryz.underlying39 h
  obtain ⟨n', hg⟩ := read_fieldW Tryz.underlying39 h
  obtain ⟨c0, y0, e0, h0, _⟩ := hf 0 0 3 rfl l2cInt (by rw [cellsOp13]; omega)
  obtain ⟨y1, h1⟩ := hg 1 1 35 8 rfl cellsMs
  obtain ⟨c2, y2, e2, h2, _⟩ := hf 2 9 3 rfl l2cInt (by rw [cellsOp13]; omega)
  obtain ⟨c3, y3, e3, h3, _⟩ := hf 3 10 36 rfl l2cBytes (by rw [cellsOp13]; omega)
  obtain ⟨c4, y4, e4, h4, _⟩ := hf 4 11 3 rfl l2cInt (by rw [cellsOp13]; omega)
  obtain ⟨c5, y5, e5, h5, g5⟩ := hf 5 12 37 rfl l2cBools (by rw [cellsOp13]; omega)
  obtain ⟨d, rfl, w0⟩ := cell_int Tryz.underlying3 h0
  obtain ⟨t, rfl, w2⟩ := cell_int Tryz.underlying3 h2
  obtain ⟨m, rfl, w4⟩ := cell_int Tryz.underlying3 h4
  obtain ⟨ks, _, w5, s5⟩ := cell_slice (α := Bool) Value.bool (fun _ => True) Tryz.underlying37 l2cBool (fun fuel c y h => by obtain ⟨b, hb⟩ := cell_bool Tryz.underlying4 h; exact ⟨b, hb, trivial⟩) h5
  obtain ⟨xs, w6, w7, _⟩ := cell_slice (α := Int) (Value.int .u8) (fun x => 0 ≤ x ∧ x ≤ 255) Tryz.underlying36 l2cU8 (fun fuel c y h => by obtain ⟨b, hb, hw⟩ := cell_int Tryz.underlying5 h; exact ⟨b, hb, wf_u8 hw⟩) h3
  have hl1 : ((cs.drop 1).take 8).length = 8 := by rw [List.length_take, List.length_drop]; omega
  obtain ⟨ms, e1, w1⟩ := read_ms hl1 h1
  refine ⟨⟨d, ms, t, c3, xs, m, c5, ks⟩, ?_, ⟨w1, wf_i64 w4, w5, w7, w6⟩, fun hz => ?_⟩
  · match cs, hl with
    | [a0, a1, a2, a3, a4, a5, a6, a7, a8, a9, a10, a11, a12], _ =>
      simp at e0 e1 e2 e3 e4 e5
      obtain ⟨rfl, rfl, rfl, rfl, rfl, rfl, rfl, rfl⟩ := e1
      subst e0 e2 e3 e4 e5
      rfl
  · show ks.length ≤ _
    rcases s5 with rfl | ⟨es, sp, he, hlen⟩
    · simp
    · have h8 : (es.length + sp.length) * Tryz.prog.bytesOf 4 ∈ x.1.weights Tryz.prog 39 := by
        rw [hx, DataW.weights, Tryz.underlying39]
        refine DataW.weights_mem_each (j := 5) (t := 37) (d := y5.1) rfl g5 _ ?_
        rw [he, DataW.weights, Tryz.underlying37]
        exact List.mem_cons_self
      have h9 := hz _ h8
      rw [l2bBool] at h9
      have := reachBytes_lt
      omega

set_option maxRecDepth 100000 in
theorem read_ops13_sz {ts : List TypeId} {ds : List (DataW H)} {j : Nat} {v : Value} {d : DataW H} {p : List MemPlace} (hz : (DataW.weightsEach Tryz.prog ts ds).all (· ≤ reachBytes) = true) (ht : ts[j]? = some 22) (hd : ds[j]? = some d)
    (ho : Value.okWide Tryz.prog W .any base 22 v) (h : DataW.Trod enc Tryz.prog W 0 (fun _ => true) true 22 v d p) :
    ∃ a os c, v = .slice a (os : List Op13).length c ∧ Ops13 W a os ∧ os.length ≤ maxLen := by
  obtain ⟨a0, len0, cap0, rfl⟩ := okWide_slice Tryz.underlying22 ho
  obtain ⟨fuel, hf⟩ := h
  rcases Deep.open_slice Tryz.underlying22 hf with ⟨hcs, _⟩ | ⟨a, len, cap, m, n, D, Pl, hcs, _, hl, hm, hme, hx, hel⟩
  · simp [Value.cells] at hcs
    obtain ⟨rfl, rfl, rfl⟩ := hcs
    refine ⟨none, [], 0, rfl, ?_, Nat.zero_le _⟩
    intro k hk; cases hk
  · simp [Value.cells] at hcs
    obtain ⟨rfl, rfl, rfl⟩ := hcs
    simp only [if_true] at hme
    rw [cellsOp13] at hel
    have hdx : d = .slice ((List.range len0).map D) ((List.range (m - len0)).map fun j => D (len0 + j)) := congrArg Prod.fst hx
    have hwt : ∀ i, i < len0 → ∀ n ∈ (D i).weights Tryz.prog 39, n ≤ reachBytes := fun i hi n hn => by
      have h1 : n ∈ d.weights Tryz.prog 22 := by
        rw [hdx, DataW.weights, Tryz.underlying22]
        exact List.mem_cons_of_mem _ (List.mem_append_left _ (weightsAll_mem (List.mem_map.2 ⟨i, List.mem_range.2 hi, rfl⟩) hn))
      have := List.all_eq_true.1 hz _ (DataW.weights_mem_each ht hd n h1)
      simpa using this
    have hch : ∀ i, i < len0 → ∃ o : Op13, CellsAt W (a.add (i * 13)) (op13v o) ∧ o.Wf W ∧ o.keep.length ≤ 140737488355328 := by
      intro i hi
      obtain ⟨es, hes, hd⟩ := hel i (by omega)
      obtain ⟨g1, g2⟩ := cells_at hes
      obtain ⟨o, rfl, hw, hk⟩ := read_op13z g1 hd
      exact ⟨o, g2, hw, hk (hwt i hi)⟩
    obtain ⟨g, hg⟩ := Deep.choose_lt hch
    refine ⟨some a, (List.range len0).map g, cap0, by simp, ?_, ?_⟩
    · intro k hk
      simp only [List.length_map, List.length_range] at hk
      have h0 := (hg 0 (by omega)).1
      rw [Nat.zero_mul, show a.add 0 = a by simp [Addr.add]] at h0
      have ha := cells_plain (m := 12) rfl h0
      refine ⟨by simpa using (hg k hk).2, a.block, a.off, by rw [← ha], fun j v hj => ?_⟩
      have h1 := (hg k hk).1 j v (by simpa using hj)
      rw [ha, add_plain, add_plain] at h1
      exact h1
    · simp only [List.length_map, List.length_range]
      omega
end
theorem does_walk {W : World} {n a : Int} (wn : (Lit.int .i64 n).wf = true) {a1 : Option Addr} {os : List Op13} {c1 : Nat} (h1 : Ops13 W a1 os) (hl1 : os.length ≤ maxLen) :
    Calls Tryz.prog 3 #[.int .i64 n, .int .i64 a, .slice a1 os.length c1] W fun e W' => e = .returned (.bool true) ∧ Below W.heap.size W W' := call_of_spec W (l20Does_ok W n a (i64_wf wn) a1 os c1 h1 hl1)
end Go.Gsl
