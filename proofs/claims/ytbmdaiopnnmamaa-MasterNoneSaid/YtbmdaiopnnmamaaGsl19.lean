/- Methods of interfaces; arrays as values and as slices; append to a full slice. -/
import Derived.Test.YtbmdaiopnnmamaaGsl18
import Derived.Laws.StructEq
namespace Go.Gsl
set_option linter.unusedVariables false

/-- What a method of a value of this type is. -/
class Meth (P : Program) (t : TypeId) (name : String) (f : outParam FuncId) : Prop where
  out : ∀ (v : Value) (args : Array Value) (w : World), (callMethod (.iface t v) name args).run P w = (callFunc f (#[v] ++ args)).run P w
theorem Meth.of {P : Program} {t : TypeId} {name : String} {f : FuncId} {fs : Array Field} (hu : P.underlying t = some (.struct fs)) (hm : ((P.info? t).map fun i => ((i.methods.find? (·.name == name)).map fun m => (m.path.isEmpty, m.func))) = some (some (true, some (f, false)))) : Meth P t name f := by
  refine ⟨fun v args w => ?_⟩
  obtain ⟨i, hi, h1⟩ := Option.map_eq_some_iff.1 hm
  obtain ⟨m, hm1, h2⟩ := Option.map_eq_some_iff.1 h1
  simp only [Prod.mk.injEq, Array.isEmpty_iff] at h2
  obtain ⟨h3, h4⟩ := h2
  have h5 : (method (P.types.size + Made.depth) t v name).run P w = .ok (f, v) w := by
    have : P.types.size + Made.depth = (P.types.size + (Made.depth - 1)) + 1 := by simp [Made.depth]
    rw [this]
    simp [method, typeInfo, hi, hm1, h3, follow, h4, receiverAt, run_underlying hu, Place.get]
  simp [callMethod, run_program, h5]

section
variable {P : Program} {ops : List Oper} {Q : Cont} {n : Nat} {w0 : World} {rest : List Oper} {e : Env} {Rs F : List Res} {ty : TypeId}
instance PureOp.mkIfaceS (x : Operand) (v : Value) (t : TypeId) (fs : Array Field) [h : Ev n e x v] [hu : Und P t (.struct fs)] : PureOp P n e (.makeInterface t x) ty (.iface t v) :=
  ⟨fun o h1 _ w => by unfold execOp; rw [h1]; simp [h.out, Instr.makeInterface, run_und (t := t)]⟩

theorem sw_invoke {d : Nat} {f : FuncId} {name : String} {t : TypeId} {u : Value} {x : Operand} {args : List Operand} {ts : Array TypeId} {pos : String} {after : Array Edge} {vs : List Value} {ks : List Nat} {rs : List HProp} {Post : List Res → Value → List Res → Prop}
    [hx : Ev n e x (.iface t u)] [hm : Meth P t name f] (hs : Spec P f (u :: vs) ks rs Post) [hb : Body P f] [ha : EvL n e args vs] [hsp : Split Rs ks rs F]
    (k : ∀ v Rs', Post F v Rs' → SW P ops Q n w0 rest ((d, v) :: e) Rs') :
    SW P ops Q n w0 ({ dst := some d, op := .call { callee := .invoke x name, args := args.toArray, argTypes := ts }, type := ty, pos := pos, after := after, guard := none } :: rest) e Rs := by
  intro w hw
  have h1 : ∀ o : Oper, o.op = .call { callee := .invoke x name, args := args.toArray, argTypes := ts } → (execOp (act n e).eval o).run P w = (callFunc f (u :: vs).toArray).run P w := by
    intro o ho
    unfold execOp
    rw [ho]
    have h2 : (args.toArray.map (act n e).eval) = vs.toArray := by rw [List.map_toArray, ha.out]
    simp only [resolve, hx.out, h2, Sem.run_bind, Sem.run_pure, Result.andThen_ok, invoke]
    have h3 : (#[Value.iface t u] ++ vs.toArray)[0]? = some (.iface t u) := by simp
    have h4 : (#[Value.iface t u] ++ vs.toArray).extract 1 (#[Value.iface t u] ++ vs.toArray).size = vs.toArray := by simp
    simp only [h3, h4, hm.out]
    simp
  refine wpM_enter rfl (by rw [h1 _ rfl, hb.out]) (hs w0 F w (hw.ent hsp.ent)) ?_
  rintro x w' ⟨v, Rs', rfl, hp, hw'⟩
  refine ⟨v, rfl, ?_⟩
  rw [actM_put]
  exact k v Rs' hp w' hw'

/-- an element of an array's value -/
theorem sw_indexV {d : Nat} {t et : TypeId} {x y : Operand} {cs : List Value} {k : IntKind} {i : Int} {m : Nat} {pos : String} {after : Array Edge} (j : Nat) (v : Value) [hx : Ev n e x (.agg cs.toArray)] [hy : Ev n e y (.int k i)] [hu : Und P t (.array m et)] [hn : NonAgg P et] [hs : SizeOf P et 1]
    (h : i = j ∧ j < m) (hv : cs[j]? = some v)
    (q : SW P ops Q n w0 rest ((d, v) :: e) Rs) : SW P ops Q n w0 ({ dst := some d, op := .index t x y, type := ty, pos := pos, after := after, guard := none } :: rest) e Rs := by
  obtain ⟨rfl, hj⟩ := h
  refine sw_op (h := @RunOp.pure P n w0 e Rs _ _ _ ⟨fun o h1 _ w => ?_⟩) q
  unfold execOp; rw [h1]
  have h2 : (0 : Int) ≤ (j : Int) ∧ (j : Int) < (m : Int) := by omega
  simp [hx.out, hy.out, Instr.index, asIntOf, run_und (t := t), hj, hs.out, part, hn.out, hv]

/-- all of an array as a slice -/
theorem runop_sliceA {t et : TypeId} {x : Operand} {b m : Nat} [hx : Ev n e x (.pointer (some ⟨b, 0, none⟩))] [hu : Und P t (.array m et)] [hs : SizeOf P et 1] :
    RunOp P n w0 e Rs (.slice t x none none none) ty (.slice (some ⟨b, 0, none⟩) m m) := by
  refine @RunOp.pure P n w0 e Rs _ _ _ ⟨fun o h1 _ w => ?_⟩
  unfold execOp; rw [h1]
  have : (Instr.sliceBounds false m m none none none).run P w = .ok (0, m, m) w := by simp [Instr.sliceBounds]
  simp [hx.out, Instr.sliceAt, run_und (t := t), Instr.sureAddr, this, hs.out, Addr.add]
theorem sw_sliceA {d : Nat} {t et : TypeId} {x : Operand} {b m : Nat} {pos : String} {after : Array Edge} [hx : Ev n e x (.pointer (some ⟨b, 0, none⟩))] [hu : Und P t (.array m et)] [hs : SizeOf P et 1]
    (q : SW P ops Q n w0 rest ((d, .slice (some ⟨b, 0, none⟩) m m) :: e) Rs) : SW P ops Q n w0 ({ dst := some d, op := .slice t x none none none, type := ty, pos := pos, after := after, guard := none } :: rest) e Rs :=
  sw_op (h := runop_sliceA) q

/-- copy(dst, src) into a row of one's own, of whichever type it was made -/
theorem sw_copyT {d : Nat} {t t' el tb : TypeId} {nb : Nat} {x y : Operand} {z : Value} {b o dl dc sl sc : Nat} {a : Option Addr} {cs : List Value} (src : List Value) {pos : String} {after : Array Edge}
    [hx : Ev n e x (.slice (some ⟨b, o, none⟩) dl dc)] [hy : Ev n e y (.slice a sl sc)] [he : Elem P t el 1 nb z] [tk : Take Rs b (pts b (.cells cs.toArray tb (0, 0))) F]
    (hsrc : ∀ w, Sat w0 w Rs → ∀ j v, src[j]? = some v → ∃ ad, a = some ad ∧ w.cell? (ad.add j) = some v) (h1 : ∀ v ∈ src, v.oneCell' = true) (h : src.length = min sl dl ∧ o + src.length ≤ cs.length)
    (k : SW P ops Q n w0 rest ((d, .int .i64 src.length) :: e) ((b, pts b (.cells (cs.take o ++ src ++ cs.drop (o + src.length)).toArray tb (0, 0))) :: F)) :
    SW P ops Q n w0 ({ dst := some d, op := .call { callee := .builtin .copy, args := [x, y].toArray, argTypes := [t, t'].toArray }, type := ty, pos := pos, after := after, guard := none } :: rest) e Rs := by
  intro w hw
  obtain ⟨i0, hi0, hz0, hz1, hz2⟩ := info_parts he.info
  obtain ⟨h2, h3⟩ := h
  have hb := hw.get tk
  have hst := run_storeCells (P := P) (b := b) (off := o) (ty' := tb) src 0 cs w h1 hb (by omega)
  have hld : (Builtin.firstCells 1 (min sl dl) (.slice a sl sc)).run P w = .ok src.toArray w := by
    cases a with
    | none =>
      cases hs : src with
      | nil => simp [Builtin.firstCells]
      | cons v r => obtain ⟨ad, h, _⟩ := hsrc w hw 0 v (by rw [hs]; rfl); cases h
    | some ad =>
      refine run_firstCells_some w 1 (min sl dl) ad sl sc src (by omega) fun j v hj => ?_
      obtain ⟨ad', h7, h8⟩ := hsrc w hw j v hj
      cases h7; exact h8
  have hr : ∀ op : Oper, op.op = .call { callee := .builtin .copy, args := [x, y].toArray, argTypes := [t, t'].toArray } → (execOp (act n e).eval op).run P w = .ok (.value (.int .i64 src.length)) { w with heap := w.heap.setIfInBounds b (.cells (cs.take (o + 0) ++ src ++ cs.drop (o + 0 + src.length)).toArray tb (0, 0)) } := by
    intro op ho
    unfold execOp; rw [ho]
    simp only [resolve, invoke, builtin, List.map_toArray, List.map_cons, List.map_nil, hx.out, hy.out, Sem.run_bind, Sem.run_pure, Result.andThen_ok]
    have hld' : (Builtin.firstCells 1 (sl.min dl) (.slice a sl sc)).run P w = .ok src.toArray w := hld
    simp [Builtin.copy_, run_underlying he.und, Builtin.lenOf, sizeOf, typeInfo, hi0, hz1, hld', hst, goInt]
    rw [h2]
  refine wpM_value rfl (hr _ rfl) ?_
  rw [actM_put]
  simp only [Nat.add_zero]
  exact k _ (hw.set tk _)

/-- append(s, x...), s having no room, something coming -/
theorem sw_append_full {d : Nat} {t el : TypeId} {nb : Nat} {x y : Operand} {z : Value} {m m' c' : Nat} {a a' : Option Addr} {cs src : List Value} {pos : String} {after : Array Edge}
    [hx : Ev n e x (.slice a m m)] [hy : Ev n e y (.slice a' m' c')] [he : Elem P t el 1 nb z] [hz : One z]
    (hcs : ∀ w, Sat w0 w Rs → ∀ j v, cs[j]? = some v → ∃ ad, a = some ad ∧ w.cell? (ad.add j) = some v) (hpl : 0 < m → ∃ b o, a = some ⟨b, o, none⟩) (hnone : m = 0 → a = none ∨ ∃ b o, a = some ⟨b, o, none⟩)
    (hsrc : ∀ w, Sat w0 w Rs → ∀ j v, src[j]? = some v → ∃ ad, a' = some ad ∧ w.cell? (ad.add j) = some v)
    (h : 0 < m' ∧ cs.length = m ∧ src.length = m' ∧ m + m' ≤ 9223372036854775807 ∧ (m + m') * nb ≤ 140737488355328)
    (k : ∀ b' r, SW P ops Q n w0 rest ((d, .slice (some ⟨b', 0, none⟩) (m + m') (m + m' + r.length)) :: e) ((b', pts b' (.cells (cs ++ src ++ r).toArray el (0, 0))) :: Rs)) :
    SW P ops Q n w0 ({ dst := some d, op := .call { callee := .builtin .append, args := [x, y].toArray, argTypes := [t, t].toArray }, type := ty, pos := pos, after := after, guard := none } :: rest) e Rs := by
  intro w hw
  obtain ⟨h2, h3, h4, h5, h6⟩ := h
  obtain ⟨i0, hi, hz0, hz1, hz2⟩ := info_parts he.info
  have hzs : z.cells.size = 1 := by rw [cells_one hz.out]; rfl
  have hl1 : src.length = m' * i0.size := by rw [hz1, Nat.mul_one]; exact h4
  have hl2 : cs.length = m * i0.size := by rw [hz1, Nat.mul_one]; exact h3
  obtain ⟨ad, rfl⟩ : ∃ ad, a' = some ad := by
    cases hs : src with
    | nil => rw [hs] at h4; simp at h4; omega
    | cons v r => obtain ⟨ad, h, _⟩ := hsrc w hw 0 v (by rw [hs]; rfl); exact ⟨ad, h⟩
  have hsrc' : ∀ j v, src[j]? = some v → w.cell? (ad.add j) = some v := fun j v hj => by
    obtain ⟨ad', h7, h8⟩ := hsrc w hw j v hj
    cases h7; exact h8
  by_cases ha : a = none
  · subst ha
    have hm : m = 0 := by
      rcases Nat.eq_zero_or_pos m with h | h
      · exact h
      · obtain ⟨b, o, h⟩ := hpl h; cases h
    subst hm
    have hc0 : cs = [] := List.eq_nil_of_length_eq_zero h3
    subst hc0
    have hr := run_append_nil (P := P) w t ty el i0 z he.und hi hz0 ad m' c' src hl1 hsrc' h2 (by omega) (by rw [hz2]; rw [Nat.zero_add] at h6; omega)
    refine wpM_value rfl (run_call_append rfl w hr) ?_
    rw [actM_put]
    have hge := grownCap_ge w m' 0 el
    have h8 := k w.heap.size (Builtin.zeroCells z.cells (grownCap w m' 0 el - m')).toList
    have e1 : 0 + m' + (Builtin.zeroCells z.cells (grownCap w m' 0 el - m')).toList.length = grownCap w m' 0 el := by rw [zeroCells_len _ _ hzs]; omega
    rw [e1, Nat.zero_add] at h8
    have h9 := (hw.draw (w.drawn + 1)).new (.cells (src.toArray ++ Builtin.zeroCells z.cells (grownCap w m' 0 el - m')) el (0, 0))
    have e2 : src.toArray ++ Builtin.zeroCells z.cells (grownCap w m' 0 el - m') = (src ++ (Builtin.zeroCells z.cells (grownCap w m' 0 el - m')).toList).toArray := by simp
    rw [e2] at h9 ⊢
    exact h8 _ h9
  · obtain ⟨b, o, rfl⟩ : ∃ b o, a = some ⟨b, o, none⟩ := by
      rcases Nat.eq_zero_or_pos m with h | h
      · rcases hnone h with h | h
        · exact absurd h ha
        · exact h
      · exact hpl h
    have holds : ∀ j v, cs[j]? = some v → w.cell? (Addr.add ⟨b, o, none⟩ j) = some v := fun j v hj => by
      obtain ⟨ad', h7, h8⟩ := hcs w hw j v hj
      cases h7; exact h8
    have hr := run_append_grow (P := P) w t ty el i0 z he.und hi hz0 ⟨b, o, none⟩ m m cs hl2 holds ad m' c' src hl1 hsrc' (by omega) (by omega) (growslice_fits (by omega) (by rw [hz2]; exact h6))
    refine wpM_value rfl (run_call_append rfl w hr) ?_
    rw [actM_put]
    have hge := grownCap_ge w (m + m') m el
    have h8 := k w.heap.size (Builtin.zeroCells z.cells (grownCap w (m + m') m el - (m + m'))).toList
    have e1 : m + m' + (Builtin.zeroCells z.cells (grownCap w (m + m') m el - (m + m'))).toList.length = grownCap w (m + m') m el := by rw [zeroCells_len _ _ hzs]; omega
    rw [e1] at h8
    have h9 := (hw.draw (w.drawn + 1)).new (.cells (cs.toArray ++ src.toArray ++ Builtin.zeroCells z.cells (grownCap w (m + m') m el - (m + m'))) el (0, 0))
    have e2 : cs.toArray ++ src.toArray ++ Builtin.zeroCells z.cells (grownCap w (m + m') m el - (m + m')) = (cs ++ src ++ (Builtin.zeroCells z.cells (grownCap w (m + m') m el - (m + m'))).toList).toArray := by simp
    rw [e2] at h9 ⊢
    exact h8 _ h9
end
end Go.Gsl
