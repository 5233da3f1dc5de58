/- append(s, make([]T, n)...). -/
import Derived.Test.YtbmdaiopnnmamaaGB
namespace Go.Gsl
set_option linter.unusedVariables false
section
variable {P : Program} {ops : List Oper} {Q : Cont} {n : Nat} {w0 : World} {rest : List Oper} {e : Env} {Rs F : List Res} {ty : TypeId}
theorem zeroCells_rep (z : Value) (hz : z.oneCell' = true) (m : Nat) : Builtin.zeroCells z.cells m = (List.replicate m z).toArray := by
  rw [cells_one hz]
  apply Array.ext_getElem?
  intro j
  unfold Builtin.zeroCells
  by_cases hj : j < m <;> simp [hj, Nat.mod_one]
/-- zeros come behind a row of one's own -/
theorem sw_append_make {d : Nat} {t tx el : TypeId} {nb : Nat} {x y : Operand} {z : Value} {b m c : Nat} {i : Int} {kx : IntKind} {cs : List Value} {pos : String} {after : Array Edge} (m' : Nat)
    [hx : Ev n e x (.slice (some ⟨b, 0, none⟩) m c)] [hy : Ev n e y (.int .i64 i)] [he : Elem P t el 1 nb z] [hu : Und P tx (.int kx)] [hz : One z] [tk : Take Rs b (pts b (.cells cs.toArray el (0, 0))) F]
    (h : i = m' ∧ 0 < m' ∧ m ≤ c ∧ cs.length = c ∧ m + m' ≤ 9223372036854775807 ∧ (m + m') * nb ≤ 140737488355328)
    (k : ∀ b' r, SW P ops Q n w0 rest ((d, .slice (some ⟨b', 0, none⟩) (m + m') (m + m' + r.length)) :: e) ((b', pts b' (.cells (cs.take m ++ List.replicate m' z ++ r).toArray el (0, 0))) :: F)) :
    SW P ops Q n w0 ({ dst := some d, op := .call { callee := .builtin .append, args := [x, y].toArray, argTypes := [t, tx].toArray }, type := ty, pos := pos, after := after, guard := none } :: rest) e Rs := by
  intro w hw
  obtain ⟨rfl, hp, h2, h3, h5, h6⟩ := h
  obtain ⟨i0, hi, hz0, hz1, hz2⟩ := info_parts he.info
  have hb := hw.get tk
  have hux : P.underlying tx = some (.int kx) := hu.out
  have hi64 : IntKind.i64.wrap (m' : Int) = m' := IntWalk.i64_in _ (by omega)
  have hn0 : ¬ ((m' : Int) < 0) := by omega
  have hne : ¬ m' = 0 := by omega
  have hnb : m' * nb ≤ 140737488355328 := by
    have : m' * nb ≤ (m + m') * nb := Nat.mul_le_mul_right _ (by omega)
    omega
  have hbig : ¬ (281474976710656 < (m' : Int) * (i0.bytes : Int)) := by
    rw [hz2]
    have : ((m' * nb : Nat) : Int) ≤ 140737488355328 := by omega
    rw [Int.natCast_mul] at this
    omega
  have hzr := zeroCells_rep z hz.out
  by_cases hroom : m + m' ≤ c
  · have hst := run_storeCells (P := P) (b := b) (off := m) (ty' := el) (List.replicate m' z) 0 cs w (fun v hv => by rw [List.eq_of_mem_replicate hv]; exact hz.out) hb (by rw [List.length_replicate]; omega)
    rw [List.length_replicate, Nat.add_zero] at hst
    have hr : (Builtin.append_ #[t, tx] ty #[.slice (some ⟨b, 0, none⟩) m c, .int .i64 (m' : Int)]).run P w = .ok (.slice (some ⟨b, 0, none⟩) (m + m') c) { w with heap := w.heap.setIfInBounds b (.cells (cs.take m ++ List.replicate m' z ++ cs.drop (m + m')).toArray el (0, 0)) } := by
      simp [Builtin.append_, run_underlying he.und, run_underlying hux, sizeOf, typeInfo, zeroValue, hi, hz0, hz1, asInt, asIntOf, hi64, hn0, hne, hbig, hroom, hzr, Addr.add_lit, hst]
    refine wpM_value rfl (run_call_append rfl w hr) ?_
    rw [actM_put]
    have h8 := k b (cs.drop (m + m'))
    have e1 : m + m' + (cs.drop (m + m')).length = c := by rw [List.length_drop]; omega
    rw [e1] at h8
    exact h8 _ (hw.set tk _)
  · have hlo : (cs.take m).length = m * i0.size := by rw [hz1, Nat.mul_one, List.length_take]; omega
    have holds : ∀ j v, (cs.take m)[j]? = some v → w.drew.cell? (Addr.add ⟨b, 0, none⟩ j) = some v := fun j v hj => by
      have : w.cell? (Addr.add ⟨b, 0, none⟩ j) = some v := by
        refine cell_row hb ?_
        rw [Nat.zero_add]
        rw [List.getElem?_take] at hj
        split at hj
        · exact hj
        · cases hj
      simpa using this
    have hfo := run_firstCells_some (P := P) w.drew i0.size m ⟨b, 0, none⟩ m c (cs.take m) hlo holds
    have h63' : ¬ (9223372036854775807 < ((m : Int) + (m' : Int))) := by omega
    have hg := growslice_fits (need := m + m') (old := c) (bytes := i0.bytes) (by omega) (by rw [hz2]; exact h6)
    have h48' : ¬ (281474976710656 < Builtin.nextslicecap (m + m') c * i0.bytes) := by omega
    have hr : (Builtin.append_ #[t, tx] ty #[.slice (some ⟨b, 0, none⟩) m c, .int .i64 (m' : Int)]).run P w =
        .ok (.slice (some ⟨w.heap.size, 0, none⟩) (m + m') (grownCap w (m + m') c el)) (w.drew.alloc (.cells ((cs.take m).toArray ++ (List.replicate m' z).toArray ++ Builtin.zeroCells z.cells (grownCap w (m + m') c el - (m + m'))) el)) := by
      rw [hz1] at hfo
      simp [Builtin.append_, run_underlying he.und, run_underlying hux, sizeOf, typeInfo, zeroValue, hi, hz0, hz1, asInt, asIntOf, hi64, hn0, hne, hbig, hroom, h63', h48', Question.forced, hfo, newRow, grownCap, hzr]
    refine wpM_value rfl (run_call_append rfl w hr) ?_
    rw [actM_put]
    have hzs : z.cells.size = 1 := by rw [cells_one hz.out]; rfl
    have hge := grownCap_ge w (m + m') c el
    have h8 := k w.heap.size (Builtin.zeroCells z.cells (grownCap w (m + m') c el - (m + m'))).toList
    have e1 : m + m' + (Builtin.zeroCells z.cells (grownCap w (m + m') c el - (m + m'))).toList.length = grownCap w (m + m') c el := by rw [zeroCells_len _ _ hzs]; omega
    rw [e1] at h8
    have h9 := (((hw.draw (w.drawn + 1)).new (.cells ((cs.take m).toArray ++ (List.replicate m' z).toArray ++ Builtin.zeroCells z.cells (grownCap w (m + m') c el - (m + m'))) el (0, 0))).ent (Ent.cons _ (tk.ent.trans (Ent.drop _ _))))
    have e2 : (cs.take m).toArray ++ (List.replicate m' z).toArray ++ Builtin.zeroCells z.cells (grownCap w (m + m') c el - (m + m')) = (cs.take m ++ List.replicate m' z ++ (Builtin.zeroCells z.cells (grownCap w (m + m') c el - (m + m'))).toList).toArray := by simp
    rw [e2] at h9 ⊢
    exact h8 _ h9
end
end Go.Gsl
