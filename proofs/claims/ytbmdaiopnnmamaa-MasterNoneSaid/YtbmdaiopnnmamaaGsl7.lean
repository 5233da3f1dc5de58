/- Slices' elements; structs read and written whole. -/
import Derived.Test.YtbmdaiopnnmamaaGsl6
namespace Go.Gsl
set_option linter.unusedVariables false

section
variable {P : Program} {ops : List Oper} {Q : Cont} {n : Nat} {w0 : World} {l rest : List Oper} {e : Env} {Rs Rs' F : List Res} {ty : TypeId}

theorem Spec.mono {f : FuncId} {args : List Value} {ks : List Nat} {rs : List HProp} {Post Post' : List Res → Value → List Res → Prop} (h : Spec P f args ks rs Post) (hp : ∀ F v Rs', Post F v Rs' → Post' F v Rs') : Spec P f args ks rs Post' := by
  intro w0 F w hw
  refine (h w0 F w hw).mono ?_
  rintro x w' ⟨v, Rs', hx, hp', hs⟩
  exact ⟨v, Rs', hx, hp _ _ _ hp', hs⟩

/-! ### len, indexes -/
instance PureOp.sllen (x : Operand) (a : Option Addr) (m c : Nat) (t et : TypeId) [hx : Ev n e x (.slice a m c)] [hu : Und P t (.slice et)] : PureOp P n e (.call { callee := .builtin .len, args := [x].toArray, argTypes := [t].toArray }) ty (.int .i64 m) :=
  ⟨fun o h1 _ w => by unfold execOp; rw [h1]; simp [resolve, invoke, builtin, Builtin.len_, hx.out, run_und (t := t), goInt]⟩

theorem pure_index {t et : TypeId} {x y : Operand} {b off m c sz : Nat} {k : IntKind} {i : Int} [hx : Ev n e x (.slice (some ⟨b, off, none⟩) m c)] [hy : Ev n e y (.int k i)] [hu : Und P t (.slice et)] [hs : SizeOf P et sz] (h : 0 ≤ i ∧ i < m) :
    PureOp P n e (.indexAddr t x y) ty (.pointer (some ⟨b, off + i.toNat * sz, none⟩)) :=
  ⟨fun o h1 _ w => by
    unfold execOp; rw [h1]
    simp [hx.out, hy.out, Instr.indexAt, asIntOf, run_und (t := t), h, hs.out, Addr.add]⟩

theorem sw_index {d : Nat} {t et : TypeId} {x y : Operand} {b off m c sz : Nat} {k : IntKind} {i : Int} {pos : String} {after : Array Edge} [hx : Ev n e x (.slice (some ⟨b, off, none⟩) m c)] [hy : Ev n e y (.int k i)] [hu : Und P t (.slice et)] [hs : SizeOf P et sz] (h : 0 ≤ i ∧ i < m)
    (q : SW P ops Q n w0 rest ((d, .pointer (some ⟨b, off + i.toNat * sz, none⟩)) :: e) Rs) : SW P ops Q n w0 ({ dst := some d, op := .indexAddr t x y, type := ty, pos := pos, after := after, guard := none } :: rest) e Rs :=
  have h1 : PureOp P n e (.indexAddr t x y) ty (.pointer (some ⟨b, off + i.toNat * sz, none⟩)) := pure_index h
  sw_op (h := @RunOp.pure P n w0 e Rs _ _ _ h1) q

/-! ### whole structs -/
theorem run_loadCells {w : World} {b off : Nat} : ∀ (vs : List Value) (i : Nat) (acc : Array Value), (∀ j v, vs[j]? = some v → w.cell? ⟨b, off + (i + j), none⟩ = some v) →
    (loadCellsFrom ⟨b, off, none⟩ i vs.length acc).run P w = .ok (acc ++ vs.toArray) w
  | [], i, acc, _ => by simp [loadCellsFrom]
  | v :: vs, i, acc, h => by
    have h0 := h 0 v (by simp)
    have ha : (Addr.add ⟨b, off, none⟩ i) = ⟨b, off + (i + 0), none⟩ := by
      simp [Addr.add]
    simp only [List.length_cons, loadCellsFrom, Sem.run_bind, run_load, ha, h0, Result.andThen_ok]
    rw [run_loadCells vs (i + 1) (acc.push v) fun j u hj => by
      have := h (j + 1) u (by simpa using hj)
      rw [show off + (i + 1 + j) = off + (i + (j + 1)) by omega]; exact this]
    simp

theorem runop_load_agg {t : TypeId} {x : Operand} {b off : Nat} {vs : List Value} [h : Ev n e x (.pointer (some ⟨b, off, none⟩))] [ht : IsAggT P t] (sz : Nat) [hs : SizeOf P t sz] (hl : vs.length = sz)
    (hc : ∀ w, Sat w0 w Rs → ∀ j v, vs[j]? = some v → w.cell? ⟨b, off + j, none⟩ = some v) : RunOp P n w0 e Rs (.load t x) ty (.agg vs.toArray) :=
  ⟨fun o h1 _ w hw => by
    subst hl
    unfold execOp; rw [h1]
    have h2 := run_loadCells (P := P) (w := w) (b := b) (off := off) vs 0 #[] fun j v hj => by rw [Nat.zero_add]; exact hc w hw j v hj
    simp [h.out, Instr.loadAt, Instr.sureAddr, loadVar, ht.out, hs.out, loadCells, h2]⟩

theorem sw_load_agg {d : Nat} {t : TypeId} {x : Operand} {b off : Nat} {vs : List Value} {pos : String} {after : Array Edge} {sz : Nat} [h : Ev n e x (.pointer (some ⟨b, off, none⟩))] [ht : IsAggT P t] [hs : SizeOf P t sz] (hl : vs.length = sz)
    (hc : ∀ w, Sat w0 w Rs → ∀ j v, vs[j]? = some v → w.cell? ⟨b, off + j, none⟩ = some v)
    (q : SW P ops Q n w0 rest ((d, .agg vs.toArray) :: e) Rs) : SW P ops Q n w0 ({ dst := some d, op := .load t x, type := ty, pos := pos, after := after, guard := none } :: rest) e Rs :=
  sw_op (h := runop_load_agg sz hl hc) q

class LenL (l : List Value) (m : Nat) : Prop where out : l.length = m
instance LenL.nil : LenL [] 0 := ⟨rfl⟩
instance LenL.cons (v : Value) (l : List Value) (m : Nat) [h : LenL l m] : LenL (v :: l) (m + 1) := ⟨by simp [h.out]⟩

/-- a whole variable of the call's own -/
instance RunOp.load_agg (t : TypeId) (x : Operand) (b : Nat) (vs : List Value) (sz : Nat) (ty' : TypeId) (fr : Nat × Nat) (F : List Res) [h : Ev n e x (.pointer (some ⟨b, 0, none⟩))] [ha : IsAggT P t] [hs : SizeOf P t sz] [hl : LenL vs sz]
    [ht : Take Rs b (pts b (.cells vs.toArray ty' fr)) F] : RunOp P n w0 e Rs (.load t x) ty (.agg vs.toArray) :=
  runop_load_agg sz hl.out fun w hw j v hj => by
    rw [Nat.zero_add]
    exact cell_of (hw.get ht) (by simpa using hj)

class OneL (l : List Value) : Prop where out : ∀ v ∈ l, v.oneCell' = true
instance OneL.nil : OneL [] := ⟨by simp⟩
instance OneL.cons (v : Value) (l : List Value) [h : One v] [h2 : OneL l] : OneL (v :: l) := ⟨by
  intro u hu
  rcases List.mem_cons.1 hu with rfl | hu
  · exact h.out
  · exact h2.out u hu⟩

theorem run_storeCells {b off : Nat} {ty' : TypeId} : ∀ (vs : List Value) (i : Nat) (cs : List Value) (w : World), (∀ v ∈ vs, v.oneCell' = true) → w.heap[b]? = some (.cells cs.toArray ty' (0, 0)) → off + (i + vs.length) ≤ cs.length →
    (storeCells ⟨b, off, none⟩ vs i).run P w = .ok () { w with heap := w.heap.setIfInBounds b (.cells (cs.take (off + i) ++ vs ++ cs.drop (off + i + vs.length)).toArray ty' (0, 0)) }
  | [], i, cs, w, _, hb, _ => by
    obtain ⟨hlt, hg⟩ := Array.getElem?_eq_some_iff.1 hb
    simp only [storeCells, Sem.run_pure, List.append_nil, List.length_nil, Nat.add_zero, List.take_append_drop]
    congr 1
    have : w.heap.setIfInBounds b (.cells cs.toArray ty' (0, 0)) = w.heap := by
      apply Array.ext_getElem?
      intro j
      rw [Array.getElem?_setIfInBounds]
      by_cases hj : b = j
      · subst hj; simp [hlt, hg]
      · simp [hj]
    rw [this]
  | v :: vs, i, cs, w, hv, hb, hl => by
    have hlen : off + i < cs.length := by simp only [List.length_cons] at hl; omega
    have ha : (Addr.add ⟨b, off, none⟩ i) = ⟨b, off + i, none⟩ := by
      simp [Addr.add]
    have hc : w.cell? ⟨b, off + i, none⟩ = some cs[off + i] := cell_of hb (by simp [hlen])
    have hf : w.frozen? ⟨b, off + i, none⟩ = false := by simp [World.frozen?, hb]
    simp only [storeCells, Sem.run_bind, ha, run_store P w ⟨b, off + i, none⟩ v .plain (hv v (by simp)), hc, hf, Bool.false_eq_true, if_false, Result.andThen_ok, setCell_eq hb]
    have hs : cs.toArray.setIfInBounds (off + i) v = (cs.set (off + i) v).toArray := by simp
    rw [hs]
    obtain ⟨hlt, hg⟩ := Array.getElem?_eq_some_iff.1 hb
    rw [run_storeCells (ty' := ty') vs (i + 1) (cs.set (off + i) v) _ (fun u hu => hv u (by simp [hu])) (by simp [hlt]) (by simp only [List.length_cons, List.length_set] at hl ⊢; omega)]
    congr 1
    simp only [Array.setIfInBounds_setIfInBounds]
    have e1 : (cs.set (off + i) v).take (off + (i + 1)) = cs.take (off + i) ++ [v] := by
      rw [show off + (i + 1) = off + i + 1 by omega, List.take_succ_eq_append_getElem (by simpa using hlen), List.take_set_of_le (Nat.le_refl _)]
      simp
    have e2 : (cs.set (off + i) v).drop (off + (i + 1) + vs.length) = cs.drop (off + i + (vs.length + 1)) := by
      rw [show off + (i + 1) + vs.length = off + i + (vs.length + 1) by omega, List.drop_set_of_lt (by omega)]
    rw [e1, e2]
    simp

/-- a whole variable is written -/
theorem sw_store_agg {t : TypeId} {x y : Operand} {b sz : Nat} {old vs : List Value} {ty' : TypeId} {pos : String} {after : Array Edge} [h : Ev n e x (.pointer (some ⟨b, 0, none⟩))] [h2 : Ev n e y (.agg vs.toArray)] [hv : OneL vs] [hs : SizeOf P t sz] [hl : LenL vs sz] [hl2 : LenL old sz]
    [ht : Take Rs b (pts b (.cells old.toArray ty' (0, 0))) F] (k : SW P ops Q n w0 rest e ((b, pts b (.cells vs.toArray ty' (0, 0))) :: F)) :
    SW P ops Q n w0 ({ dst := none, op := .store t x y, type := ty, pos := pos, after := after, guard := none } :: rest) e Rs := by
  intro w hw
  have hb := hw.get ht
  have h1 := hl.out
  have h3 := hl2.out
  have h4 := run_storeCells (P := P) (b := b) (off := 0) vs 0 old w hv.out hb (by omega)
  have e1 : (old.take (0 + 0) ++ vs ++ old.drop (0 + 0 + vs.length)) = vs := by
    rw [List.drop_eq_nil_of_le (by omega)]; simp
  rw [e1] at h4
  have hr : ∀ o : Oper, o.op = .store t x y → (execOp (act n e).eval o).run P w = .ok .skip { w with heap := w.heap.setIfInBounds b (.cells vs.toArray ty' (0, 0)) } := by
    intro o ho
    unfold execOp; rw [ho]
    simp [h.out, h2.out, Instr.storeAt, Instr.sureAddr, storeVar, Value.cells, hs.out, h1, h4]
  exact wpM_skip rfl (hr _ rfl) (k _ (hw.set ht _))

end
end Go.Gsl
