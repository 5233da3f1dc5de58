/- Slices: rows of cells that a walk holds, or that lie for ever; make, literals, elements, append, copy. -/
import Derived.Test.YtbmdaiopnnmamaaGsl10
import Derived.Maps.AppendAt
import Derived.OwnWalk
namespace Go.Gsl
set_option linter.unusedVariables false

/-- What a slice's elements are. -/
class Elem (P : Program) (t : TypeId) (e : outParam TypeId) (sz nb : outParam Nat) (z : outParam Value) : Prop where
  und : P.underlying t = some (.slice e)
  info : (P.info? e).map (fun i => (i.zero, i.size, i.bytes)) = some (some z, sz, nb)

theorem Fits.left {a b : Hp} {w : World} (h : Fits (hjoin a b) w) : Fits a w := fun k o f hk => h k o f (by simp [hjoin, hk])
theorem Fits.right {a b : Hp} {w : World} (hd : hdisj a b) (h : Fits (hjoin a b) w) : Fits b w := by rw [hjoin_comm hd] at h; exact h.left

/-- From 'r' the cells from 'a' on can be read: 'xs'. -/
def Reads (r : HProp) (a : Option Addr) (xs : List Value) : Prop := ∀ h w, r h → Fits h w → ∀ j v, xs[j]? = some v → ∃ ad, a = some ad ∧ w.cell? (ad.add j) = some v

section
variable {P : Program} {ops : List Oper} {Q : Cont} {n : Nat} {w0 : World} {l rest : List Oper} {e : Env} {Rs Rs' F : List Res} {ty : TypeId}

theorem Reads.sat {r : HProp} {a : Option Addr} {xs : List Value} {k : Nat} {w : World} (hr : Reads r a xs) [t : Take Rs k r F] (hw : Sat w0 w Rs) : ∀ j v, xs[j]? = some v → ∃ ad, a = some ad ∧ w.cell? (ad.add j) = some v := by
  obtain ⟨_, z, hf, hs⟩ := hw
  obtain ⟨x, y, hd, rfl, hx, _⟩ := t.ent _ hs
  exact hr x w hx hf.left

theorem cell_row {w : World} {b : Nat} {cs : List Value} {t : TypeId} {fr : Nat × Nat} {off j : Nat} {v : Value} (hb : w.heap[b]? = some (.cells cs.toArray t fr)) (h : cs[off + j]? = some v) : w.cell? (Addr.add ⟨b, off, none⟩ j) = some v := by
  rw [add_plain]
  exact cell_of hb (by simpa using h)

/-- a row of one's own is read -/
theorem reads_pts {b off : Nat} {cs : List Value} {t : TypeId} {fr : Nat × Nat} {xs : List Value} (h : ∀ j v, xs[j]? = some v → cs[off + j]? = some v) : Reads (pts b (.cells cs.toArray t fr)) (some ⟨b, off, none⟩) xs :=
  fun hp w hr hf j v hj => ⟨_, rfl, cell_row (hf b _ _ hr.1) (h j v hj)⟩
theorem reads_imm {b off : Nat} {cs : List Value} {t : TypeId} {fr : Nat × Nat} {xs : List Value} (h : ∀ j v, xs[j]? = some v → cs[off + j]? = some v) : Reads (imm b (.cells cs.toArray t fr)) (some ⟨b, off, none⟩) xs :=
  fun hp w hr hf j v hj => ⟨_, rfl, cell_row (hf b _ _ hr) (h j v hj)⟩
theorem reads_nil (r : HProp) (a : Option Addr) : Reads r a [] := fun _ _ _ _ _ _ h => by simp at h
theorem reads_ro {W : World} {a : Option Addr} {xs : List Value} (h : ∀ j v, xs[j]? = some v → ∃ ad, a = some ad ∧ W.cell? (ad.add j) = some v) : Reads (ro W) a xs := by
  intro hp w hr hf j v hj
  obtain ⟨ad, rfl, hc⟩ := h j v hj
  refine ⟨ad, rfl, ?_⟩
  rw [← hc]
  refine World.cell?_of_block ?_
  have hlt := lt_of_cell hc
  have : (W.heap[(ad.add j).block]?).isSome := by simp [hlt]
  obtain ⟨o, ho⟩ := Option.isSome_iff_exists.1 this
  rw [ho]
  exact hf _ _ _ (hr _ _ ho)

theorem src_imm (q : Nat) {b : Nat} {src r : List Value} {t : TypeId} {fr : Nat × Nat} [tk : Take Rs q (imm b (.cells (src ++ r).toArray t fr)) F] : ∀ w, Sat w0 w Rs → ∀ j v, src[j]? = some v → ∃ ad, some (⟨b, 0, none⟩ : Addr) = some ad ∧ w.cell? (ad.add j) = some v :=
  fun w hw j v hj => ⟨_, rfl, cell_row (hw.get_imm tk) (by rw [Nat.zero_add, List.getElem?_append_left (List.getElem?_eq_some_iff.1 hj).1]; exact hj)⟩
theorem src_pts {b : Nat} {src r : List Value} {t : TypeId} {fr : Nat × Nat} [tk : Take Rs b (pts b (.cells (src ++ r).toArray t fr)) F] : ∀ w, Sat w0 w Rs → ∀ j v, src[j]? = some v → ∃ ad, some (⟨b, 0, none⟩ : Addr) = some ad ∧ w.cell? (ad.add j) = some v :=
  fun w hw j v hj => ⟨_, rfl, cell_row (hw.get tk) (by rw [Nat.zero_add, List.getElem?_append_left (List.getElem?_eq_some_iff.1 hj).1]; exact hj)⟩
theorem src_pts0 {b : Nat} {src : List Value} {t : TypeId} {fr : Nat × Nat} [tk : Take Rs b (pts b (.cells src.toArray t fr)) F] : ∀ w, Sat w0 w Rs → ∀ j v, src[j]? = some v → ∃ ad, some (⟨b, 0, none⟩ : Addr) = some ad ∧ w.cell? (ad.add j) = some v :=
  fun w hw j v hj => ⟨_, rfl, cell_row (hw.get tk) (by rw [Nat.zero_add]; exact hj)⟩
theorem one_ints (k : IntKind) (xs : List Int) : ∀ v ∈ xs.map (Value.int k), v.oneCell' = true := by
  intro v hv; obtain ⟨x, _, rfl⟩ := List.mem_map.1 hv; rfl
theorem one_bools (xs : List Bool) : ∀ v ∈ xs.map Value.bool, v.oneCell' = true := by
  intro v hv; obtain ⟨x, _, rfl⟩ := List.mem_map.1 hv; rfl

/-! ### make and literals -/
theorem sw_makeSlice {d : Nat} {t el : TypeId} {nb : Nat} {x y : Operand} {z : Value} {pos : String} {after : Array Edge} {i j : Int} (m c : Nat) [hx : Ev n e x (.int .i64 i)] [hy : Ev n e y (.int .i64 j)] [he : Elem P t el 1 nb z] [hz : One z]
    (h : i = m ∧ j = c ∧ m ≤ c ∧ c ≤ 9223372036854775807 ∧ nb * c ≤ 281474976710656)
    (k : ∀ b, SW P ops Q n w0 rest ((d, .slice (some ⟨b, 0, none⟩) m c) :: e) ((b, pts b (.cells (List.replicate c z).toArray el (0, 0))) :: Rs)) :
    SW P ops Q n w0 ({ dst := some d, op := .makeSlice t x y, type := ty, pos := pos, after := after, guard := none } :: rest) e Rs := by
  intro w hw
  obtain ⟨rfl, rfl, h1, h2, h3⟩ := h
  obtain ⟨i0, hi, hz0, hz1, hz2⟩ := info_parts he.info
  have hr : ∀ o : Oper, o.op = .makeSlice t x y → (execOp (act n e).eval o).run P w = .ok (.value (.slice (some ⟨w.heap.size, 0, none⟩) m c)) (w.alloc (.cells (List.replicate c z).toArray el)) := by
    intro o ho
    unfold execOp; rw [ho]
    have h5 : (i0.bytes : Int) * (c : Int) ≤ 281474976710656 := by
      have : ((nb * c : Nat) : Int) ≤ ((281474976710656 : Nat) : Int) := Int.ofNat_le.2 h3
      rw [Int.natCast_mul] at this; rw [hz2]; exact this
    have h6 := run_make (P := P) w t el i0 z he.und hi hz0 .i64 .i64 m c (by omega) (by omega) h5 (by omega)
    have h7 : madeCells z.cells (c * i0.size) = (List.replicate c z).toArray := by
      rw [hz1, cells_one hz.out, Nat.mul_one]
      unfold madeCells
      apply Array.ext_getElem?
      intro j
      by_cases hj : j < c <;> simp [hj, Nat.mod_one]
    simp only [Int.toNat_natCast, h7] at h6
    simp [hx.out, hy.out, h6]
  refine wpM_value rfl (hr _ rfl) ?_
  rw [actM_put]
  exact k w.heap.size _ (hw.new _)

theorem runp_buildSlice {t el : TypeId} {nb : Nat} {m : Nat} {xs : List (Nat × Operand)} {vs : List (Nat × Value)} {z : Value} {cs : List Value} [hx : PartsL n e xs vs] [he : Elem P t el 1 nb z] [hz : One z] (hm : m ≤ 16777216)
    (hf : Instr.fill (fun i => some (i * 1, 1)) (Array.replicate m z) vs = some cs.toArray) {o : Oper} (ho : o.op = .buildSlice t m xs.toArray) (w : World) :
    (execOp (act n e).eval o).run P w = .ok (.value (.slice (some ⟨w.heap.size, 0, none⟩) m m)) (w.alloc (.cells cs.toArray el)) := by
  obtain ⟨i0, hi, hz0, hz1, hz2⟩ := info_parts he.info
  unfold execOp
  rw [ho]
  have h2 : (List.map (fun x : Nat × Operand => match x with | (i, x) => (i, (act n e).eval x)) xs) = vs := by rw [← hx.out]
  have h3 : ¬ (16777216 < m) := by omega
  have hzc : z.cells = #[z] := cells_one hz.out
  simp only [Nat.mul_one] at hf
  by_cases h0 : m = 0
  · subst h0
    have h5 : (Array.map (fun _ : Nat => (default : Value)) (Array.range 0)) = Array.replicate 0 z := by simp
    simp [Instr.buildSlice, run_underlying he.und, sizeOf, typeInfo, hi, hz1, newRow, h2]
    rw [h5, hf]
    simp
  · have h5 : Array.map (fun x => [z][x % 1]?.getD default) (Array.range m) = Array.replicate m z := by
      apply Array.ext_getElem?
      intro j
      by_cases hj : j < m <;> simp [hj, Nat.mod_one]
    simp [Instr.buildSlice, run_underlying he.und, sizeOf, typeInfo, hi, hz1, zeroValue, hz0, newRow, h2, h3, h0, hzc]
    rw [h5, hf]
    simp

/-- []T{..} -/
theorem sw_buildSlice {d : Nat} {t el : TypeId} {nb : Nat} {m : Nat} {xs : List (Nat × Operand)} {vs : List (Nat × Value)} {z : Value} {pos : String} {after : Array Edge} (cs : List Value) [hx : PartsL n e xs vs] [he : Elem P t el 1 nb z] [hz : One z] (hm : m ≤ 16777216)
    (hf : Instr.fill (fun i => some (i * 1, 1)) (Array.replicate m z) vs = some cs.toArray)
    (k : ∀ b, SW P ops Q n w0 rest ((d, .slice (some ⟨b, 0, none⟩) m m) :: e) ((b, pts b (.cells cs.toArray el (0, 0))) :: Rs)) :
    SW P ops Q n w0 ({ dst := some d, op := .buildSlice t m xs.toArray, type := ty, pos := pos, after := after, guard := none } :: rest) e Rs := by
  intro w hw
  refine wpM_value rfl (runp_buildSlice hm hf rfl w) ?_
  rw [actM_put]
  exact k w.heap.size _ (hw.new _)

/-! ### elements -/
/-- s[j], by a plain number -/
theorem sw_idx {d : Nat} {t et : TypeId} {x y : Operand} {b m c : Nat} {k : IntKind} {i : Int} {pos : String} {after : Array Edge} (j : Nat) [hx : Ev n e x (.slice (some ⟨b, 0, none⟩) m c)] [hy : Ev n e y (.int k i)] [hu : Und P t (.slice et)] [hs : SizeOf P et 1] (h : i = j ∧ j < m)
    (q : SW P ops Q n w0 rest ((d, .pointer (some ⟨b, j, none⟩)) :: e) Rs) : SW P ops Q n w0 ({ dst := some d, op := .indexAddr t x y, type := ty, pos := pos, after := after, guard := none } :: rest) e Rs := by
  refine sw_index (b := b) (off := 0) (m := m) (c := c) (sz := 1) (i := i) (k := k) (et := et) (by omega) ?_
  have : (0 + i.toNat * 1) = j := by omega
  rw [this]; exact q

/-- a cell of a row of one's own -/
theorem sw_loadAt {d : Nat} {t : TypeId} {x : Operand} {b j : Nat} {cs : List Value} {t' : TypeId} {fr : Nat × Nat} (v : Value) {pos : String} {after : Array Edge} [hx : Ev n e x (.pointer (some ⟨b, j, none⟩))] [hn : NonAgg P t] [tk : Take Rs b (pts b (.cells cs.toArray t' fr)) F] (hv : cs[j]? = some v)
    (q : SW P ops Q n w0 rest ((d, v) :: e) Rs) : SW P ops Q n w0 ({ dst := some d, op := .load t x, type := ty, pos := pos, after := after, guard := none } :: rest) e Rs :=
  sw_op (h := runop_load (a := ⟨b, j, none⟩) fun w hw => cell_of (hw.get tk) (by simpa using hv)) q
theorem sw_loadImm {d : Nat} {t : TypeId} {x : Operand} {b j : Nat} {cs : List Value} {t' : TypeId} {fr : Nat × Nat} (v : Value) {pos : String} {after : Array Edge} [hx : Ev n e x (.pointer (some ⟨b, j, none⟩))] [hn : NonAgg P t] [tk : Take Rs b (imm b (.cells cs.toArray t' fr)) F] (hv : cs[j]? = some v)
    (q : SW P ops Q n w0 rest ((d, v) :: e) Rs) : SW P ops Q n w0 ({ dst := some d, op := .load t x, type := ty, pos := pos, after := after, guard := none } :: rest) e Rs :=
  sw_op (h := runop_load (a := ⟨b, j, none⟩) fun w hw => cell_of (hw.get_imm tk) (by simpa using hv)) q
theorem sw_storeAt {t : TypeId} {x y : Operand} {b j : Nat} {cs : List Value} {t' : TypeId} {v : Value} {pos : String} {after : Array Edge} [hx : Ev n e x (.pointer (some ⟨b, j, none⟩))] [h2 : Ev n e y v] [hv : One v] [hs : SizeOf P t 1] [tk : Take Rs b (pts b (.cells cs.toArray t' (0, 0))) F] (hj : j < cs.length)
    (q : SW P ops Q n w0 rest e ((b, pts b (.cells (cs.set j v).toArray t' (0, 0))) :: F)) : SW P ops Q n w0 ({ dst := none, op := .store t x y, type := ty, pos := pos, after := after, guard := none } :: rest) e Rs := by
  intro w hw
  refine wpM_skip rfl (run_store_cell (b := b) (i := j) (v := v) rfl (hw.get tk) (by simpa using hj)) (q _ ?_)
  have h3 : cs.toArray.setIfInBounds j v = (cs.set j v).toArray := by simp
  rw [h3]
  exact hw.set tk _

/-! ### append -/
theorem run_call_append {x y : Operand} {u v : Value} {t t' : TypeId} {o : Oper} (ho : o.op = .call { callee := .builtin .append, args := [x, y].toArray, argTypes := [t, t'].toArray }) [hx : Ev n e x u] [hy : Ev n e y v] (w : World) {r : Value} {w' : World}
    (h : (Builtin.append_ #[t, t'] o.type #[u, v]).run P w = .ok r w') : (execOp (act n e).eval o).run P w = .ok (.value r) w' := by
  unfold execOp
  rw [ho]
  simp [resolve, invoke, builtin, hx.out, hy.out, h]

theorem setRow_eq {w : World} {b : Nat} {old cs : Array Value} {t : TypeId} {fr : Nat × Nat} (hb : w.heap[b]? = some (.cells old t fr)) : w.setRow b cs = { w with heap := w.heap.setIfInBounds b (.cells cs t fr) } := by
  unfold World.setRow
  congr 1
  obtain ⟨hlt, hg⟩ := Array.getElem?_eq_some_iff.1 hb
  apply Array.ext_getElem?
  intro j
  rw [Array.getElem?_modify, Array.getElem?_setIfInBounds]
  by_cases hj : b = j
  · subst hj; simp [hlt, hg]
  · simp [hj]

theorem zeroCells_len (z : Array Value) (n : Nat) (h : z.size = 1) : (Builtin.zeroCells z n).toList.length = n := by
  rw [Array.length_toList, size_zeroCells, h, Nat.mul_one]

/-- append(s, x...): onto a row of one's own -/
theorem sw_append {d : Nat} {t el : TypeId} {nb : Nat} {x y : Operand} {z : Value} {b m c m' c' : Nat} {a : Option Addr} {cs src : List Value} {pos : String} {after : Array Edge}
    [hx : Ev n e x (.slice (some ⟨b, 0, none⟩) m c)] [hy : Ev n e y (.slice a m' c')] [he : Elem P t el 1 nb z] [hz : One z] [tk : Take Rs b (pts b (.cells cs.toArray el (0, 0))) F]
    (hsrc : ∀ w, Sat w0 w Rs → ∀ j v, src[j]? = some v → ∃ ad, a = some ad ∧ w.cell? (ad.add j) = some v) (h1 : ∀ v ∈ src, v.oneCell' = true)
    (h : m ≤ c ∧ cs.length = c ∧ src.length = m' ∧ m + m' ≤ 9223372036854775807 ∧ (m + m') * nb ≤ 140737488355328)
    (k : ∀ b' r, SW P ops Q n w0 rest ((d, .slice (some ⟨b', 0, none⟩) (m + m') (m + m' + r.length)) :: e) ((b', pts b' (.cells (cs.take m ++ src ++ r).toArray el (0, 0))) :: F)) :
    SW P ops Q n w0 ({ dst := some d, op := .call { callee := .builtin .append, args := [x, y].toArray, argTypes := [t, t].toArray }, type := ty, pos := pos, after := after, guard := none } :: rest) e Rs := by
  intro w hw
  obtain ⟨h2, h3, h4, h5, h6⟩ := h
  obtain ⟨i0, hi, hz0, hz1, hz2⟩ := info_parts he.info
  have hb := hw.get tk
  have hzs : z.cells.size = 1 := by rw [cells_one hz.out]; rfl
  have hl1 : src.length = m' * i0.size := by rw [hz1, Nat.mul_one]; exact h4
  have hl2 : (cs.take m).length = m * i0.size := by rw [hz1, Nat.mul_one, List.length_take]; omega
  have holds : ∀ j v, (cs.take m)[j]? = some v → w.cell? (Addr.add ⟨b, 0, none⟩ j) = some v := fun j v hj => by
    refine cell_row hb ?_
    rw [Nat.zero_add]
    rw [List.getElem?_take] at hj
    split at hj
    · exact hj
    · cases hj
  by_cases hm : m' = 0
  · -- nothing comes
    subst hm
    have hs0 : src = [] := List.eq_nil_of_length_eq_zero (by omega)
    subst hs0
    have hf : ∀ ad : Addr, (Builtin.firstCells i0.size 0 (.slice (some ad) 0 c')).run P w = .ok #[] w := fun ad => run_firstCells_some w i0.size 0 ad 0 c' [] (by simp) (by simp)
    have hr : (Builtin.append_ #[t, t] ty #[.slice (some ⟨b, 0, none⟩) m c, .slice a 0 c']).run P w = .ok (.slice (some ⟨b, 0, none⟩) m c) w := by
      cases a with
      | none => simp [Builtin.append_, run_underlying he.und, sizeOf, typeInfo, hi, Builtin.lenOf, h2, run_firstCells_none, storeCells]
      | some ad => simp [Builtin.append_, run_underlying he.und, sizeOf, typeInfo, hi, Builtin.lenOf, h2, hf, storeCells]
    refine wpM_value rfl (run_call_append rfl w hr) ?_
    rw [actM_put]
    have h8 := k b (cs.drop m)
    have e1 : m + 0 + (cs.drop m).length = c := by rw [List.length_drop]; omega
    have e2 : cs.take m ++ [] ++ cs.drop m = cs := by simp
    rw [e1, e2] at h8
    exact h8 w (hw.ent tk.ent)
  · obtain ⟨ad, rfl⟩ : ∃ ad, a = some ad := by
      cases hs : src with
      | nil => rw [hs] at h4; simp at h4; omega
      | cons v r => obtain ⟨ad, h, _⟩ := hsrc w hw 0 v (by rw [hs]; rfl); exact ⟨ad, h⟩
    have hsrc' : ∀ j v, src[j]? = some v → w.cell? (ad.add j) = some v := fun j v hj => by
      obtain ⟨ad', h7, h8⟩ := hsrc w hw j v hj
      cases h7; exact h8
    by_cases hroom : m + m' ≤ c
    · have hr := run_append_room (P := P) w t ty el i0 he.und hi b m c cs.toArray hb ad m' c' src hl1 hsrc' h1 hroom (by rw [hz1]; simp; omega)
      refine wpM_value rfl (run_call_append rfl w hr) ?_
      rw [actM_put]
      have h8 := k b (cs.drop (m + m'))
      have e1 : m + m' + (cs.drop (m + m')).length = c := by rw [List.length_drop]; omega
      rw [e1] at h8
      have h9 := hw.set tk (.cells (cs.take m ++ src ++ cs.drop (m + m')).toArray el (0, 0))
      rw [hz1, Nat.mul_one, h4, setRow_eq hb]
      exact h8 _ h9
    · have hr := run_append_grow (P := P) w t ty el i0 z he.und hi hz0 ⟨b, 0, none⟩ m c (cs.take m) hl2 holds ad m' c' src hl1 hsrc' (by omega) (by omega) (growslice_fits (by omega) (by rw [hz2]; exact h6))
      refine wpM_value rfl (run_call_append rfl w hr) ?_
      rw [actM_put]
      have hge := grownCap_ge w (m + m') c el
      have h8 := k w.heap.size (Builtin.zeroCells z.cells (grownCap w (m + m') c el - (m + m'))).toList
      have e1 : m + m' + (Builtin.zeroCells z.cells (grownCap w (m + m') c el - (m + m'))).toList.length = grownCap w (m + m') c el := by rw [zeroCells_len _ _ hzs]; omega
      rw [e1] at h8
      have h9 := (((hw.draw (w.drawn + 1)).new (.cells ((cs.take m).toArray ++ src.toArray ++ Builtin.zeroCells z.cells (grownCap w (m + m') c el - (m + m'))) el (0, 0))).ent (Ent.cons _ (tk.ent.trans (Ent.drop _ _))))
      have e2 : (cs.take m).toArray ++ src.toArray ++ Builtin.zeroCells z.cells (grownCap w (m + m') c el - (m + m')) = (cs.take m ++ src ++ (Builtin.zeroCells z.cells (grownCap w (m + m') c el - (m + m'))).toList).toArray := by simp
      rw [e2] at h9 ⊢
      exact h8 _ h9

/-- append(s, x...), s being nil and something coming -/
theorem sw_append_nil {d : Nat} {t el : TypeId} {nb : Nat} {x y : Operand} {z : Value} {m' c' : Nat} {a : Option Addr} {src : List Value} {pos : String} {after : Array Edge}
    [hx : Ev n e x (.slice none 0 0)] [hy : Ev n e y (.slice a m' c')] [he : Elem P t el 1 nb z] [hz : One z]
    (hsrc : ∀ w, Sat w0 w Rs → ∀ j v, src[j]? = some v → ∃ ad, a = some ad ∧ w.cell? (ad.add j) = some v)
    (h : 0 < m' ∧ src.length = m' ∧ m' ≤ 9223372036854775807 ∧ m' * nb ≤ 281474976710656)
    (k : ∀ b' r, SW P ops Q n w0 rest ((d, .slice (some ⟨b', 0, none⟩) m' (m' + r.length)) :: e) ((b', pts b' (.cells (src ++ r).toArray el (0, 0))) :: Rs)) :
    SW P ops Q n w0 ({ dst := some d, op := .call { callee := .builtin .append, args := [x, y].toArray, argTypes := [t, t].toArray }, type := ty, pos := pos, after := after, guard := none } :: rest) e Rs := by
  intro w hw
  obtain ⟨h2, h4, h5, h6⟩ := h
  obtain ⟨i0, hi, hz0, hz1, hz2⟩ := info_parts he.info
  have hzs : z.cells.size = 1 := by rw [cells_one hz.out]; rfl
  have hl1 : src.length = m' * i0.size := by rw [hz1, Nat.mul_one]; exact h4
  obtain ⟨ad, rfl⟩ : ∃ ad, a = some ad := by
    cases hs : src with
    | nil => rw [hs] at h4; simp at h4; omega
    | cons v r => obtain ⟨ad, h, _⟩ := hsrc w hw 0 v (by rw [hs]; rfl); exact ⟨ad, h⟩
  have hsrc' : ∀ j v, src[j]? = some v → w.cell? (ad.add j) = some v := fun j v hj => by
    obtain ⟨ad', h7, h8⟩ := hsrc w hw j v hj
    cases h7; exact h8
  have hr := run_append_nil (P := P) w t ty el i0 z he.und hi hz0 ad m' c' src hl1 hsrc' h2 (by omega) (by rw [hz2]; exact h6)
  refine wpM_value rfl (run_call_append rfl w hr) ?_
  rw [actM_put]
  have hge := grownCap_ge w m' 0 el
  have h8 := k w.heap.size (Builtin.zeroCells z.cells (grownCap w m' 0 el - m')).toList
  have e1 : m' + (Builtin.zeroCells z.cells (grownCap w m' 0 el - m')).toList.length = grownCap w m' 0 el := by rw [zeroCells_len _ _ hzs]; omega
  rw [e1] at h8
  have h9 := (hw.draw (w.drawn + 1)).new (.cells (src.toArray ++ Builtin.zeroCells z.cells (grownCap w m' 0 el - m')) el (0, 0))
  have e2 : src.toArray ++ Builtin.zeroCells z.cells (grownCap w m' 0 el - m') = (src ++ (Builtin.zeroCells z.cells (grownCap w m' 0 el - m')).toList).toArray := by simp
  rw [e2] at h9 ⊢
  exact h8 _ h9

/-! ### s[l:h:m] -/
class EvO (n : Nat) (e : Env) (x : Option Operand) (v : outParam (Option Value)) : Prop where out : x.map (act n e).eval = v
instance EvO.none (n : Nat) (e : Env) : EvO n e none none := ⟨rfl⟩
instance EvO.some (n : Nat) (e : Env) (x : Operand) (v : Value) [h : Ev n e x v] : EvO n e (some x) (some v) := ⟨by simp [h.out]⟩

/-- what the bounds come to: (low, high, max) -/
class Bounds (len cap : Nat) (lo hi mx : Option Value) (l h m : outParam Int) (ok : outParam Prop) : Prop where
  out : ok → ∀ (P : Program) (w : World), (Instr.sliceBounds true len cap lo hi mx).run P w = .ok (l.toNat, h.toNat, m.toNat) w
instance Bounds.hi1 (len cap : Nat) (k : IntKind) (h : Int) : Bounds len cap none (some (.int k h)) none 0 h cap (0 ≤ h ∧ h ≤ cap) :=
  ⟨fun ⟨h1, h2⟩ P w => by simp [Instr.sliceBounds, run_sliceBound, h1, h2]⟩
instance Bounds.lo1 (len cap : Nat) (k : IntKind) (l : Int) : Bounds len cap (some (.int k l)) none none l len cap (0 ≤ l ∧ l ≤ len) :=
  ⟨fun ⟨h1, h2⟩ P w => by simp [Instr.sliceBounds, run_sliceBound, h1, h2]⟩
instance Bounds.lh (len cap : Nat) (k k' : IntKind) (l h : Int) : Bounds len cap (some (.int k l)) (some (.int k' h)) none l h cap (0 ≤ l ∧ l ≤ h ∧ h ≤ cap) :=
  ⟨fun ⟨h1, h2, h3⟩ P w => by
    have e1 : ((h.toNat : Nat) : Int) = h := Int.toNat_of_nonneg (by omega)
    have h4 := run_sliceBound (P := P) (w := w) k' h cap .sliceAcap (by omega) h3
    have h5 := run_sliceBound (P := P) (w := w) k l h.toNat .sliceB h1 (by omega)
    simp [Instr.sliceBounds, h4, h5]⟩
instance Bounds.hm (len cap : Nat) (k k' : IntKind) (h m : Int) : Bounds len cap none (some (.int k h)) (some (.int k' m)) 0 h m (0 ≤ h ∧ h ≤ m ∧ m ≤ cap) :=
  ⟨fun ⟨h1, h2, h3⟩ P w => by
    have e1 : ((m.toNat : Nat) : Int) = m := Int.toNat_of_nonneg (by omega)
    have h4 := run_sliceBound (P := P) (w := w) k' m cap .slice3Acap (by omega) h3
    have h5 := run_sliceBound (P := P) (w := w) k h m.toNat .slice3B h1 (by omega)
    simp [Instr.sliceBounds, h4, h5]⟩

theorem runop_slice {t el : TypeId} {nb : Nat} {x : Operand} {lo hi mx : Option Operand} {vl vh vm : Option Value} {b o len cap : Nat} {li hi' mi : Int} {ok : Prop} {z : Value} (l h m o' : Nat)
    [hx : Ev n e x (.slice (some ⟨b, o, none⟩) len cap)] [h1 : EvO n e lo vl] [h2 : EvO n e hi vh] [h3 : EvO n e mx vm] [he : Elem P t el 1 nb z] [hb : Bounds len cap vl vh vm li hi' mi ok] (hok : ok) (hl : li = l ∧ hi' = h ∧ mi = m ∧ (if m = l then o else o + l) = o') :
    RunOp P n w0 e Rs (.slice t x lo hi mx) ty (.slice (some ⟨b, o', none⟩) (h - l) (m - l)) := by
  obtain ⟨rfl, rfl, rfl, rfl⟩ := hl
  obtain ⟨i0, hi0, hz0, hz1, hz2⟩ := info_parts he.info
  refine ⟨fun op ho _ w _ => ?_⟩
  unfold execOp; rw [ho]
  have h4 := hb.out hok P w
  simp only [Int.toNat_natCast] at h4
  simp only [Instr.sliceAt, Instr.slice, Sem.run_bind, run_underlying he.und, Result.andThen_ok, hx.out, h1.out, h2.out, h3.out, h4, sizeOf, typeInfo]
  by_cases hm : m = l
  · simp [hm, hi0]
  · simp [hm, hi0, hz1, add_plain]

theorem sw_slice {d : Nat} {t el : TypeId} {nb : Nat} {x : Operand} {lo hi mx : Option Operand} {vl vh vm : Option Value} {b o len cap : Nat} {li hi' mi : Int} {ok : Prop} {z : Value} {pos : String} {after : Array Edge} (l h m o' : Nat)
    [hx : Ev n e x (.slice (some ⟨b, o, none⟩) len cap)] [h1 : EvO n e lo vl] [h2 : EvO n e hi vh] [h3 : EvO n e mx vm] [he : Elem P t el 1 nb z] [hb : Bounds len cap vl vh vm li hi' mi ok] (hok : ok) (hl : li = l ∧ hi' = h ∧ mi = m ∧ (if m = l then o else o + l) = o')
    (k : SW P ops Q n w0 rest ((d, .slice (some ⟨b, o', none⟩) (h - l) (m - l)) :: e) Rs) :
    SW P ops Q n w0 ({ dst := some d, op := .slice t x lo hi mx, type := ty, pos := pos, after := after, guard := none } :: rest) e Rs :=
  sw_op (h := runop_slice l h m o' hok hl) k

/-- s[l:h:m] of nil -/
theorem sw_slice_nil {d : Nat} {t el : TypeId} {nb : Nat} {x : Operand} {lo hi mx : Option Operand} {vl vh vm : Option Value} {li hi' mi : Int} {ok : Prop} {z : Value} {pos : String} {after : Array Edge}
    [hx : Ev n e x (.slice none 0 0)] [h1 : EvO n e lo vl] [h2 : EvO n e hi vh] [h3 : EvO n e mx vm] [he : Elem P t el 1 nb z] [hb : Bounds 0 0 vl vh vm li hi' mi ok] (hok : ok) (hl : li = 0 ∧ hi' = 0 ∧ mi = 0)
    (k : SW P ops Q n w0 rest ((d, .slice none 0 0) :: e) Rs) :
    SW P ops Q n w0 ({ dst := some d, op := .slice t x lo hi mx, type := ty, pos := pos, after := after, guard := none } :: rest) e Rs := by
  obtain ⟨rfl, rfl, rfl⟩ := hl
  obtain ⟨i0, hi0, hz0, hz1, hz2⟩ := info_parts he.info
  refine sw_op (h := ⟨fun op ho _ w _ => ?_⟩) k
  unfold execOp; rw [ho]
  have h4 := hb.out hok P w
  simp [Instr.sliceAt, Instr.slice, run_underlying he.und, hx.out, h1.out, h2.out, h3.out, h4, sizeOf, typeInfo, hi0]

/-! ### copy -/
/-- copy(dst, src) into a row of one's own: the first of 'src' -/
theorem sw_copy {d : Nat} {t t' el : TypeId} {nb : Nat} {x y : Operand} {z : Value} {b o dl dc sl sc : Nat} {a : Option Addr} {cs : List Value} (src : List Value) {pos : String} {after : Array Edge}
    [hx : Ev n e x (.slice (some ⟨b, o, none⟩) dl dc)] [hy : Ev n e y (.slice a sl sc)] [he : Elem P t el 1 nb z] [tk : Take Rs b (pts b (.cells cs.toArray el (0, 0))) F]
    (hsrc : ∀ w, Sat w0 w Rs → ∀ j v, src[j]? = some v → ∃ ad, a = some ad ∧ w.cell? (ad.add j) = some v) (h1 : ∀ v ∈ src, v.oneCell' = true) (h : src.length = min sl dl ∧ o + src.length ≤ cs.length)
    (k : SW P ops Q n w0 rest ((d, .int .i64 src.length) :: e) ((b, pts b (.cells (cs.take o ++ src ++ cs.drop (o + src.length)).toArray el (0, 0))) :: F)) :
    SW P ops Q n w0 ({ dst := some d, op := .call { callee := .builtin .copy, args := [x, y].toArray, argTypes := [t, t'].toArray }, type := ty, pos := pos, after := after, guard := none } :: rest) e Rs := by
  intro w hw
  obtain ⟨i0, hi0, hz0, hz1, hz2⟩ := info_parts he.info
  obtain ⟨h2, h3⟩ := h
  have hb := hw.get tk
  have hst := run_storeCells (P := P) (b := b) (off := o) (ty' := el) src 0 cs w h1 hb (by omega)
  have hld : (Builtin.firstCells 1 (min sl dl) (.slice a sl sc)).run P w = .ok src.toArray w := by
    cases a with
    | none =>
      cases hs : src with
      | nil => simp [Builtin.firstCells]
      | cons v r => obtain ⟨ad, h, _⟩ := hsrc w hw 0 v (by rw [hs]; rfl); cases h
    | some ad =>
      refine run_firstCells_some w 1 (min sl dl) ad sl sc src (by omega) fun j v hj => ?_
      obtain ⟨ad', h7, h8⟩ := hsrc w hw j v hj
      cases h7; exact h8
  have hr : ∀ op : Oper, op.op = .call { callee := .builtin .copy, args := [x, y].toArray, argTypes := [t, t'].toArray } → (execOp (act n e).eval op).run P w = .ok (.value (.int .i64 src.length)) { w with heap := w.heap.setIfInBounds b (.cells (cs.take (o + 0) ++ src ++ cs.drop (o + 0 + src.length)).toArray el (0, 0)) } := by
    intro op ho
    unfold execOp; rw [ho]
    simp only [resolve, invoke, builtin, List.map_toArray, List.map_cons, List.map_nil, hx.out, hy.out, Sem.run_bind, Sem.run_pure, Result.andThen_ok]
    have hld' : (Builtin.firstCells 1 (sl.min dl) (.slice a sl sc)).run P w = .ok src.toArray w := hld
    simp [Builtin.copy_, run_underlying he.und, Builtin.lenOf, sizeOf, typeInfo, hi0, hz1, hld', hst, goInt]
    rw [h2]
  refine wpM_value rfl (hr _ rfl) ?_
  rw [actM_put]
  simp only [Nat.add_zero]
  exact k _ (hw.set tk _)

/-! ### maps, all at once -/
/-- clear(m) -/
theorem sw_clear {t kt et : TypeId} {x : Operand} {k : IntKind} {b : Nat} {f : Int → Option Value} {pos : String} {after : Array Edge} [hx : Ev n e x (.map (some b))] [hu : Und P t (.map kt et)] [ht : Take Rs b (MapI k b f) F]
    (q : SW P ops Q n w0 rest e ((b, MapI k b mnil) :: F)) :
    SW P ops Q n w0 ({ dst := none, op := .call { callee := .builtin .clear, args := [x].toArray, argTypes := [t].toArray }, type := ty, pos := pos, after := after, guard := none } :: rest) e Rs := by
  intro w hw
  obtain ⟨L, clock, hg, hl, hb, hset⟩ := get_map hw ht
  have hr : ∀ o : Oper, o.op = .call { callee := .builtin .clear, args := [x].toArray, argTypes := [t].toArray } → (execOp (act n e).eval o).run P w = .ok (.value (.tuple #[])) { w with heap := w.heap.setIfInBounds b (.map (entries k []) clock) } := by
    intro o ho
    unfold execOp; rw [ho]
    have h2 : (getObj b).run P w = .ok (.map (entries k L) clock) w := by simp [getObj, Sem.run, hb]
    simp [resolve, invoke, builtin, hx.out, Builtin.clear_, run_und (t := t), h2, run_setObj_map hb, entries]
  exact wpM_value rfl (hr _ rfl) (q _ (hset [] clock mnil ⟨by simp, by simp, by simp⟩ rfl))

/-- nil, as a slice of no elements, is the same as nil -/
class SlNil (v : Value) (b : outParam Bool) : Prop where out : v = .slice none 0 0 ↔ b = true

/-! ### comparing with nil -/
section
variable {x y : Operand} {t t' : TypeId}
theorem run_equalIn_map (d : Nat) (p : Option Nat) (kt et : TypeId) [hu : Und P t (.map kt et)] (w : World) : (Op.equalIn (d + 1) t (.map p) (.map none)).run P w = .ok p.isNone w := by
  cases p <;> simp [Op.equalIn, run_und (t := t)]
theorem run_equalIn_slice (d : Nat) (a : Option Addr) (i j : Nat) (et : TypeId) [hu : Und P t (.slice et)] (w : World) : (Op.equalIn (d + 1) t (.slice a i j) (.slice none 0 0)).run P w = .ok a.isNone w := by
  cases a <;> simp [Op.equalIn, run_und (t := t)]
instance PureOp.meq (p : Option Nat) (kt et : TypeId) [hx : Ev n e x (.map p)] [hy : Ev n e y (.map none)] [hu : Und P t (.map kt et)] : PureOp P n e (.binOp .eql t x y t') ty (.bool p.isNone) :=
  ⟨fun o h1 _ w => run_eq_of h1 w (by simp [eqGuard]) (run_eql_of (.map p) (.map none) rfl fun d => run_equalIn_map d p kt et w)⟩
instance PureOp.mne (p : Option Nat) (kt et : TypeId) [hx : Ev n e x (.map p)] [hy : Ev n e y (.map none)] [hu : Und P t (.map kt et)] : PureOp P n e (.binOp .neq t x y t') ty (.bool (!p.isNone)) :=
  ⟨fun o h1 _ w => run_ne_of h1 w (by simp [eqGuard]) (run_neq_of (.map p) (.map none) rfl fun d => run_equalIn_map d p kt et w)⟩
instance PureOp.sleq (a : Option Addr) (i j : Nat) (et : TypeId) [hx : Ev n e x (.slice a i j)] [hy : Ev n e y (.slice none 0 0)] [hu : Und P t (.slice et)] : PureOp P n e (.binOp .eql t x y t') ty (.bool a.isNone) :=
  ⟨fun o h1 _ w => run_eq_of h1 w (by simp [eqGuard]) (run_eql_of (.slice a i j) (.slice none 0 0) rfl fun d => run_equalIn_slice d a i j et w)⟩
instance PureOp.slne (a : Option Addr) (i j : Nat) (et : TypeId) [hx : Ev n e x (.slice a i j)] [hy : Ev n e y (.slice none 0 0)] [hu : Und P t (.slice et)] : PureOp P n e (.binOp .neq t x y t') ty (.bool (!a.isNone)) :=
  ⟨fun o h1 _ w => run_ne_of h1 w (by simp [eqGuard]) (run_neq_of (.slice a i j) (.slice none 0 0) rfl fun d => run_equalIn_slice d a i j et w)⟩
end

/-! ### bytes to strings -/
/-- these bytes as a string -/
def strB (ns : List Int) : ByteArray := ns.foldl (fun r n => r.push (UInt8.ofNat n.toNat)) ByteArray.empty

theorem runop_bytes {s u el : TypeId} {x : Operand} {a : Option Addr} {m c : Nat} {ns : List Int} [hx : Ev n e x (.slice a m c)] [hs : Und P s (.slice el)] [he : Und P el (.int .u8)] [hu : Und P u .string]
    (hsrc : ∀ w, Sat w0 w Rs → ∀ j v, (ns.map (Value.int .u8))[j]? = some v → ∃ ad, a = some ad ∧ w.cell? (ad.add j) = some v) (hl : ns.length = m) : RunOp P n w0 e Rs (.convert s u x) ty (.string (strB ns)) :=
  ⟨fun o ho _ w hw => by
    unfold execOp; rw [ho]
    simp only [hx.out, Sem.run_bind, run_convert_bytes_string w s u el a m c hs.out he.out hu.out]
    cases a with
    | none =>
      have : ns = [] := by
        cases hn : ns with
        | nil => rfl
        | cons v r => obtain ⟨ad, h, _⟩ := hsrc w hw 0 (.int .u8 v) (by rw [hn]; rfl); cases h
      subst this
      simp [Conv.bytesToString, strB]
    | some ad =>
      have hld : (loadCells ad m).run P w = .ok (ns.map (Value.int .u8)).toArray w := by
        have := run_loadCells_list (P := P) w ad (ns.map (Value.int .u8)) fun j v hj => by
          obtain ⟨ad', h7, h8⟩ := hsrc w hw j v hj
          cases h7; exact h8
        rw [List.length_map, hl] at this
        exact this
      rw [run_bytesToString w ad m c ns hld]
      simp [strB]⟩

theorem sw_bytes {d : Nat} {s u el : TypeId} {x : Operand} {a : Option Addr} {m c : Nat} (ns : List Int) {pos : String} {after : Array Edge} [hx : Ev n e x (.slice a m c)] [hs : Und P s (.slice el)] [he : Und P el (.int .u8)] [hu : Und P u .string]
    (hsrc : ∀ w, Sat w0 w Rs → ∀ j v, (ns.map (Value.int .u8))[j]? = some v → ∃ ad, a = some ad ∧ w.cell? (ad.add j) = some v) (hl : ns.length = m)
    (q : SW P ops Q n w0 rest ((d, .string (strB ns)) :: e) Rs) : SW P ops Q n w0 ({ dst := some d, op := .convert s u x, type := ty, pos := pos, after := after, guard := none } :: rest) e Rs :=
  sw_op (h := runop_bytes hsrc hl) q

theorem strB_data : ∀ (ns : List Int) (s : ByteArray), (ns.foldl (fun r n => r.push (UInt8.ofNat n.toNat)) s).data.toList = s.data.toList ++ ns.map (fun n => UInt8.ofNat n.toNat)
  | [], s => by simp
  | n :: ns, s => by
    rw [List.foldl_cons, strB_data ns]
    simp [ByteArray.push]

theorem ba_loop (s : ByteArray) : ∀ (k i : Nat) (r : List UInt8), s.size - i = k → ByteArray.toList.loop s i r = r.reverse ++ s.data.toList.drop i
  | 0, i, r, h => by
    rw [ByteArray.toList.loop.eq_def, if_neg (by omega), List.drop_eq_nil_of_le (by have : s.data.toList.length = s.size := rfl; omega)]
    simp
  | k + 1, i, r, h => by
    have hlt : i < s.data.toList.length := by have : s.data.toList.length = s.size := rfl; omega
    rw [ByteArray.toList.loop.eq_def, if_pos (by omega), ba_loop s k (i + 1) _ (by omega)]
    have hg : s.get! i = s.data.toList[i] := by
      have : i < s.data.size := by simpa using hlt
      show s.data[i]! = _
      rw [getElem!_pos s.data i this]
      simp
    rw [hg, List.drop_eq_getElem_cons hlt]
    simp
theorem ba_toList (s : ByteArray) : s.toList = s.data.toList := by
  rw [ByteArray.toList.eq_1, ba_loop s _ 0 [] rfl]
  simp
theorem ba_inj {a b : ByteArray} (h : a.toList = b.toList) : a = b := by
  rw [ba_toList, ba_toList] at h
  cases a; cases b
  congr 1
  exact Array.ext' h

/-- two strings of bytes are the same, if the bytes are -/
theorem strB_inj {a b : List Int} (ha : ∀ x ∈ a, 0 ≤ x ∧ x ≤ 255) (hb : ∀ x ∈ b, 0 ≤ x ∧ x ≤ 255) : strB a = strB b ↔ a = b := by
  constructor
  · intro h
    have h1 := strB_data a ByteArray.empty
    have h2 := strB_data b ByteArray.empty
    have h3 : a.map (fun n => UInt8.ofNat n.toNat) = b.map (fun n => UInt8.ofNat n.toNat) := by
      have h4 : (strB a).data.toList = (strB b).data.toList := by rw [h]
      unfold strB at h4
      rw [h1, h2] at h4
      simpa using h4
    clear h h1 h2
    induction a generalizing b with
    | nil => cases b with
      | nil => rfl
      | cons y ys => simp at h3
    | cons x xs ih =>
      cases b with
      | nil => simp at h3
      | cons y ys =>
        simp only [List.map_cons, List.cons.injEq] at h3
        have hx := ha x (by simp)
        have hy := hb y (by simp)
        have e1 : x = y := by
          have h5 := congrArg UInt8.toNat h3.1
          simp only [UInt8.toNat_ofNat'] at h5
          omega
        rw [e1, ih (fun z hz => ha z (by simp [hz])) (fun z hz => hb z (by simp [hz])) h3.2]
  · rintro rfl; rfl

theorem strB_eq {a b : List Int} (ha : ∀ x ∈ a, 0 ≤ x ∧ x ≤ 255) (hb : ∀ x ∈ b, 0 ≤ x ∧ x ≤ 255) : ((strB a).toList == (strB b).toList) = decide (a = b) := by
  have h := strB_inj ha hb
  by_cases e : a = b
  · subst e; simp
  · have : strB a ≠ strB b := fun h' => e (h.1 h')
    simp only [e, decide_false]
    rw [beq_eq_false_iff_ne]
    exact fun h' => this (ba_inj h')

/-! ### holding for ever; opening what is put together -/
theorem sw_freeze {b : Nat} {o : Obj} [t : Take Rs b (pts b o) F] (k : SW P ops Q n w0 l e ((b, imm b o) :: F)) : SW P ops Q n w0 l e Rs := fun w hw => k w (hw.freeze t)
theorem sc_freeze {c : Code} {b : Nat} {o : Obj} [t : Take Rs b (pts b o) F] (k : SC P Q n w0 c e ((b, imm b o) :: F)) : SC P Q n w0 c e Rs := fun w hw => k w (hw.freeze t)
theorem sq_freeze {x : Exit} {b : Nat} {o : Obj} [t : Take Rs b (pts b o) F] (k : SQ Q n w0 x e ((b, imm b o) :: F)) : SQ Q n w0 x e Rs := fun w hw => k w (hw.freeze t)

/-- the part that lies for ever -/
def fpart (h : Hp) : Hp := fun k => match h k with
  | some (o, true) => some (o, true)
  | _ => none
theorem imm_fpart {b : Nat} {o : Obj} {h : Hp} (hi : imm b o h) : imm b o (fpart h) := by
  have : h b = some (o, true) := hi
  simp [imm, fpart, this]
/-- what follows from it, and speaks of what lies for ever alone, may be held beside it -/
theorem Ent.dup {k k' : Nat} {r r' : HProp} {F : List Res} (hp : ∀ h, r h → r' (fpart h)) : Ent ((k, r) :: F) ((k', r') :: (k, r) :: F) := by
  rintro h ⟨x, y, hd, rfl, hr, hF⟩
  refine ⟨fpart x, hjoin x y, ?_, ?_, hp x hr, x, y, hd, rfl, hr, hF⟩
  · intro k
    unfold fpart
    cases hx : x k with
    | none => left; rfl
    | some p =>
      obtain ⟨o, f⟩ := p
      cases f with
      | false => left; rfl
      | true => exact .inr (.inr ⟨o, rfl, by simp [hjoin, hx]⟩)
  · funext k
    unfold hjoin fpart
    cases hx : x k with
    | none => rfl
    | some p =>
      obtain ⟨o, f⟩ := p
      cases f <;> rfl
theorem Ent.dup_take {k k' : Nat} {r r' : HProp} [t : Take Rs k r F] (hp : ∀ h, r h → r' (fpart h)) : Ent Rs ((k', r') :: Rs) := t.ent.trans ((Ent.dup hp).trans (Ent.cons _ t.back))

/-- open a resource (by its key) -/
theorem sw_opn {α : Type} {k : Nat} {r : HProp} (φ : α → Prop) (p : α → HProp) [t : Take Rs k r F] (ho : ∀ x, r x → ∃ a, φ a ∧ p a x) (q : ∀ a, φ a → SW P ops Q n w0 l e ((k, p a) :: F)) : SW P ops Q n w0 l e Rs := by
  intro w hw
  obtain ⟨a, h1, h2⟩ := (hw.ent t.ent).opn ho
  exact q a h1 w h2
theorem sc_opn {α : Type} {c : Code} {k : Nat} {r : HProp} (φ : α → Prop) (p : α → HProp) [t : Take Rs k r F] (ho : ∀ x, r x → ∃ a, φ a ∧ p a x) (q : ∀ a, φ a → SC P Q n w0 c e ((k, p a) :: F)) : SC P Q n w0 c e Rs := by
  intro w hw
  obtain ⟨a, h1, h2⟩ := (hw.ent t.ent).opn ho
  exact q a h1 w h2
theorem sw_ent {Rs'' : List Res} (h : Ent Rs Rs'') (q : SW P ops Q n w0 l e Rs'') : SW P ops Q n w0 l e Rs := fun w hw => q w (hw.ent h)
theorem sc_ent {c : Code} {Rs'' : List Res} (h : Ent Rs Rs'') (q : SC P Q n w0 c e Rs'') : SC P Q n w0 c e Rs := fun w hw => q w (hw.ent h)
theorem sq_ent {x : Exit} {Rs'' : List Res} (h : Ent Rs Rs'') (q : SQ Q n w0 x e Rs'') : SQ Q n w0 x e Rs := fun w hw => q w (hw.ent h)
end
end Go.Gsl
