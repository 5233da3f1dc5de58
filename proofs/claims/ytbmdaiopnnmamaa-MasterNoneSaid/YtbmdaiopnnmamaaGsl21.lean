/- Arrays: literals, elements' addresses; parts of a variable that are whole structs. -/
import Derived.Test.YtbmdaiopnnmamaaGsl20
namespace Go.Gsl
set_option linter.unusedVariables false

section
variable {P : Program} {ops : List Oper} {Q : Cont} {n : Nat} {w0 : World} {rest : List Oper} {e : Env} {Rs F : List Res} {ty : TypeId}
theorem yielded_u {j t : Nat} [hd : DstAt ops j t] [hl : Lk e t undef] [hn : Lt t n] : yielded ops.toArray (act n e).tmps j = none := by
  have h1 : (ops.toArray[j]?).bind (·.dst) = some t := by simpa using hd.out
  unfold yielded
  rw [h1]
  simp [act, slots_getElem? n e t hn.out, hl.out, undef]
/-- an operation whose guard was passed by itself -/
theorem sw_guard_skip_u {d : Nat} {op : Op} {pos : String} {after : Array Edge} {j t : Nat} {b : Bool} [hd : DstAt ops j t] [hl : Lk e t undef] [hn : Lt t n]
    (k : SW P ops Q n w0 rest ((d, undef) :: e) Rs) : SW P ops Q n w0 ({ dst := some d, op := op, type := ty, pos := pos, after := after, guard := some (j, b) } :: rest) e Rs := by
  intro w hw
  unfold wpListIn
  rw [if_neg]
  · rw [actM_put]; exact ⟨fun _ _ => trivial, k w hw⟩
  · simp [Region.wanted, actM_tmps, yielded_u (n := n) (e := e) (ops := ops) (j := j) (t := t)]
theorem sg_skip_u {G : List Res} {fuel : Nat} {listed : Array Bool} {d : Nat} {op : Op} {pos : String} {after : Array Edge} {j t : Nat} {b : Bool} (i : Nat) (hc : Calm Q) (hi : ops[i]? = some { dst := some d, op := op, type := ty, pos := pos, after := after, guard := some (j, b) })
    (hs : Region.noSelect ops.toArray = true) (hf : Region.free .any ops.toArray listed i = true) (hr : (Region.ready .any ops.toArray listed).contains i = true) [hd : DstAt ops j t] [hl : Lk e t undef] [hn : Lt t n]
    (k : SG P ops Q n w0 G fuel (listed.setIfInBounds i true) ((d, undef) :: e) Rs) : SG P ops Q n w0 G (fuel + 1) listed e Rs := by
  refine ⟨k.1, fun w hw => ?_⟩
  have hi' : ops.toArray[i]? = some { dst := some d, op := op, type := ty, pos := pos, after := after, guard := some (j, b) } := by simpa using hi
  refine wpAnyC_first (v := undef) hi' (Region.noSelect_spec hs) (fun c a w => hc c a _ undef w) fuel listed _ w (Region.free_spec hi' hf) (by simpa using hr) (.inr ⟨?_, rfl⟩) ?_
  · simp [Region.wanted, actM_tmps, yielded_u (n := n) (e := e) (ops := ops) (j := j) (t := t)]
  · rw [actM_put]; exact k.2 w hw
/-- a call of a function value that is a plain function -/
theorem sw_callf {d : Nat} {x : Operand} {f : FuncId} {args : List Operand} {ts : Array TypeId} {pos : String} {after : Array Edge} {vs : List Value} {ks : List Nat} {rs : List HProp} {Post : List Res → Value → List Res → Prop}
    [hx : Ev n e x (.func (.func f) #[] #[])] [ha : EvL n e args vs] (hs : Spec P f vs ks rs Post) [hb : Body P f] [hsp : Split Rs ks rs F]
    (k : ∀ v Rs', Post F v Rs' → SW P ops Q n w0 rest ((d, v) :: e) Rs') :
    SW P ops Q n w0 ({ dst := some d, op := .call { callee := .value x, args := args.toArray, argTypes := ts }, type := ty, pos := pos, after := after, guard := none } :: rest) e Rs :=
  sw_callv (fs := []) (cs := []) (vs := vs) (by simpa using hs) k
/-- [m]T{..} -/
theorem runop_buildA {t et : TypeId} {m sz : Nat} {xs : List (Nat × Operand)} {vs : List (Nat × Value)} {z : Value} {cs : List Value} [hx : PartsL n e xs vs] [hz : ZeroOf P t z] [hu : Und P t (.array m et)] [hs : SizeOf P et sz] (hf : Instr.fill (fun i => some (i * sz, sz)) z.cells vs = some cs.toArray) :
    PureOp P n e (.build t xs.toArray) ty (.agg cs.toArray) :=
  ⟨fun o h1 _ w => by
    unfold execOp; rw [h1]
    have h2 : (List.map (fun x : Nat × Operand => match x with | (i, x) => (i, (act n e).eval x)) xs) = vs := by rw [← hx.out]
    simp [Instr.build, hz.out, run_und (t := t), hs.out, h2, hf]⟩
theorem sw_buildA {d : Nat} {t et : TypeId} {m sz : Nat} {xs : List (Nat × Operand)} {vs : List (Nat × Value)} {z : Value} {pos : String} {after : Array Edge} [hx : PartsL n e xs vs] [hz : ZeroOf P t z] [hu : Und P t (.array m et)] [hs : SizeOf P et sz] (cs : List Value) (hf : Instr.fill (fun i => some (i * sz, sz)) z.cells vs = some cs.toArray)
    (k : SW P ops Q n w0 rest ((d, .agg cs.toArray) :: e) Rs) : SW P ops Q n w0 ({ dst := some d, op := .build t xs.toArray, type := ty, pos := pos, after := after, guard := none } :: rest) e Rs :=
  have h1 : PureOp P n e (.build t xs.toArray) ty (.agg cs.toArray) := runop_buildA (ty := ty) hf
  sw_op (h := @RunOp.pure P n w0 e Rs _ _ _ h1) k

/-- an array's element -/
theorem runop_indexA {t et : TypeId} {x y : Operand} {b m sz : Nat} {k : IntKind} {i : Int} (j off : Nat) [hx : Ev n e x (.pointer (some ⟨b, 0, none⟩))] [hy : Ev n e y (.int k i)] [hu : Und P t (.array m et)] [hs : SizeOf P et sz] (h : i = j ∧ j < m ∧ 2 ≤ m) (ho : j * sz = off) :
    RunOp P n w0 e Rs (.indexAddr t x y) ty (.pointer (some ⟨b, off, none⟩)) := by
  subst ho
  obtain ⟨rfl, hj, hm⟩ := h
  refine @RunOp.pure P n w0 e Rs _ _ _ ⟨fun o h1 _ w => ?_⟩
  unfold execOp; rw [h1]
  simp [hx.out, hy.out, Instr.indexAt, asIntOf, run_und (t := t), hj, hs.out, Addr.add, Instr.sureAddr]
  intro h; exact h.symm
theorem sw_indexA {d : Nat} {t et : TypeId} {x y : Operand} {b m sz : Nat} {k : IntKind} {i : Int} {pos : String} {after : Array Edge} (j off : Nat) [hx : Ev n e x (.pointer (some ⟨b, 0, none⟩))] [hy : Ev n e y (.int k i)] [hu : Und P t (.array m et)] [hs : SizeOf P et sz] (h : i = j ∧ j < m ∧ 2 ≤ m) (ho : j * sz = off)
    (q : SW P ops Q n w0 rest ((d, .pointer (some ⟨b, off, none⟩)) :: e) Rs) : SW P ops Q n w0 ({ dst := some d, op := .indexAddr t x y, type := ty, pos := pos, after := after, guard := none } :: rest) e Rs :=
  sw_op (h := runop_indexA j off h ho) q

/-- a part of a variable is read -/
theorem runop_loadPart {t : TypeId} {x : Operand} {b off sz : Nat} {cs : List Value} {ty' : TypeId} {fr : Nat × Nat} (vs : List Value) [h : Ev n e x (.pointer (some ⟨b, off, none⟩))] [ha : IsAggT P t] [hs : SizeOf P t sz] [tk : Take Rs b (pts b (.cells cs.toArray ty' fr)) F] (hl : vs.length = sz) (hv : (cs.drop off).take sz = vs) :
    RunOp P n w0 e Rs (.load t x) ty (.agg vs.toArray) :=
  runop_load_agg sz hl fun w hw j v hj => by
    refine cell_of (hw.get tk) ?_
    rw [← hv, List.getElem?_take] at hj
    split at hj
    · rw [List.getElem?_drop] at hj; simpa using hj
    · cases hj
theorem sw_loadPart {d : Nat} {t : TypeId} {x : Operand} {b off sz : Nat} {cs : List Value} {ty' : TypeId} {fr : Nat × Nat} (vs : List Value) {pos : String} {after : Array Edge} [h : Ev n e x (.pointer (some ⟨b, off, none⟩))] [ha : IsAggT P t] [hs : SizeOf P t sz] [tk : Take Rs b (pts b (.cells cs.toArray ty' fr)) F] (hl : vs.length = sz) (hv : (cs.drop off).take sz = vs)
    (q : SW P ops Q n w0 rest ((d, .agg vs.toArray) :: e) Rs) : SW P ops Q n w0 ({ dst := some d, op := .load t x, type := ty, pos := pos, after := after, guard := none } :: rest) e Rs :=
  sw_op (h := runop_loadPart (cs := cs) vs hl hv) q

/-- a part of a variable is written -/
theorem sw_storePart {t : TypeId} {x y : Operand} {b off sz : Nat} {cs vs : List Value} {ty' : TypeId} {pos : String} {after : Array Edge} (cs' : List Value) [h : Ev n e x (.pointer (some ⟨b, off, none⟩))] [h2 : Ev n e y (.agg vs.toArray)] [hv : OneL vs] [hs : SizeOf P t sz] [hl : LenL vs sz]
    [ht : Take Rs b (pts b (.cells cs.toArray ty' (0, 0))) F] (ho : off + sz ≤ cs.length) (hc : cs.take off ++ vs ++ cs.drop (off + sz) = cs') (k : SW P ops Q n w0 rest e ((b, pts b (.cells cs'.toArray ty' (0, 0))) :: F)) :
    SW P ops Q n w0 ({ dst := none, op := .store t x y, type := ty, pos := pos, after := after, guard := none } :: rest) e Rs := by
  intro w hw
  have hb := hw.get ht
  have h1 := hl.out
  have h4 := run_storeCells (P := P) (b := b) (off := off) vs 0 cs w hv.out hb (by omega)
  rw [Nat.add_zero, h1, hc] at h4
  have hr : ∀ o : Oper, o.op = .store t x y → (execOp (act n e).eval o).run P w = .ok .skip { w with heap := w.heap.setIfInBounds b (.cells cs'.toArray ty' (0, 0)) } := by
    intro o ho
    unfold execOp; rw [ho]
    simp [h.out, h2.out, Instr.storeAt, Instr.sureAddr, storeVar, Value.cells, hs.out, h1, h4]
  refine wpM_skip rfl (hr _ rfl) (k _ ?_)
  exact hw.set ht _

/-! ### results in variables that are whole structs or arrays -/
theorem run_loadVarA {t b sz : Nat} {vs : List Value} {w : World} [ht : IsAggT P t] [hs : SizeOf P t sz] (hl : vs.length = sz) (hc : ∀ j v, vs[j]? = some v → w.cell? ⟨b, j, none⟩ = some v) : (loadVar t ⟨b, 0, none⟩).run P w = .ok (.agg vs.toArray) w := by
  subst hl
  have h2 := run_loadCells (P := P) (w := w) (b := b) (off := 0) vs 0 #[] fun j v hj => by rw [Nat.zero_add, Nat.zero_add]; exact hc j v hj
  simp [loadVar, ht.out, hs.out, loadCells, h2]
theorem sq_of_w {fn : Func} {R : Value → List Res → Prop} {v : Value} {x : Exit} (hx : x = .ret ∨ x = .normal) (hr : ∀ w, Sat w0 w Rs → (results fn (act n e).tmps).run P w = .ok v w) (h : ∃ Rs', R v Rs' ∧ Ent Rs Rs') : SQ (Post P fn w0 R) n w0 x e Rs := by
  obtain ⟨Rs', h1, h2⟩ := h
  intro w hw
  rcases hx with rfl | rfl
  · exact ⟨fun _ h => (by cases h), v, hr w hw, v, Rs', rfl, h1, hw.ent h2⟩
  · exact ⟨fun _ h => (by cases h), v, hr w hw, v, Rs', rfl, h1, hw.ent h2⟩
theorem sq_resA {fn : Func} {R : Value → List Res → Prop} {t b sz : Nat} {ty ty' : TypeId} {vs : List Value} {fr : Nat × Nat} {x : Exit} (hr : fn.results = #[.cell t ty]) (hx : x = .ret ∨ x = .normal) [Lk e t (.pointer (some ⟨b, 0, none⟩))] [Lt t n] [IsAggT P ty] [hs : SizeOf P ty sz] [tk : Take Rs b (pts b (.cells vs.toArray ty' fr)) F] (hl : vs.length = sz)
    (h : ∃ Rs', R (.agg vs.toArray) Rs' ∧ Ent Rs Rs') : SQ (Post P fn w0 R) n w0 x e Rs := by
  refine sq_of_w hx (fun w hw => ?_) h
  have a1 : (slots n e)[t]? = some (.pointer (some ⟨b, 0, none⟩)) := by rw [slots_getElem? n e t ‹Lt t n›.out, ‹Lk e t _›.out]
  have h3 := run_loadVarA (P := P) (t := ty) (w := w) (b := b) hl fun j v hj => cell_of (hw.get tk) (by simpa using hj)
  simp [results, hr, act, a1, asAddr, h3]
theorem sq_resAT {fn : Func} {R : Value → List Res → Prop} {t u b sz : Nat} {ty ty' : TypeId} {vs : List Value} {y : Value} {fr : Nat × Nat} {x : Exit} (hr : fn.results = #[.cell t ty, .tmp u]) (hx : x = .ret ∨ x = .normal) [Lk e t (.pointer (some ⟨b, 0, none⟩))] [Lt t n] [h2 : Lk e u y] [hn2 : Lt u n] [IsAggT P ty] [hs : SizeOf P ty sz] [tk : Take Rs b (pts b (.cells vs.toArray ty' fr)) F] (hl : vs.length = sz)
    (h : ∃ Rs', R (.tuple #[.agg vs.toArray, y]) Rs' ∧ Ent Rs Rs') : SQ (Post P fn w0 R) n w0 x e Rs := by
  refine sq_of_w hx (fun w hw => ?_) h
  have a1 : (slots n e)[t]? = some (.pointer (some ⟨b, 0, none⟩)) := by rw [slots_getElem? n e t ‹Lt t n›.out, ‹Lk e t _›.out]
  have a2 : (slots n e)[u]? = some y := by rw [slots_getElem? n e u hn2.out, h2.out]
  have h3 := run_loadVarA (P := P) (t := ty) (w := w) (b := b) hl fun j v hj => cell_of (hw.get tk) (by simpa using hj)
  simp [results, hr, act, a1, a2, asAddr, h3]
theorem sq_resAA {fn : Func} {R : Value → List Res → Prop} {t u b b2 sz sz2 : Nat} {ty ty' ty2 ty2' : TypeId} {vs us : List Value} {fr fr2 : Nat × Nat} {x : Exit} {F2 : List Res} (hr : fn.results = #[.cell t ty, .cell u ty2]) (hx : x = .ret ∨ x = .normal) [Lk e t (.pointer (some ⟨b, 0, none⟩))] [Lt t n] [h2 : Lk e u (.pointer (some ⟨b2, 0, none⟩))] [hn2 : Lt u n]
    [IsAggT P ty] [hs : SizeOf P ty sz] [tk : Take Rs b (pts b (.cells vs.toArray ty' fr)) F] [IsAggT P ty2] [hs2 : SizeOf P ty2 sz2] [tk2 : Take Rs b2 (pts b2 (.cells us.toArray ty2' fr2)) F2] (hl : vs.length = sz) (hl2 : us.length = sz2)
    (h : ∃ Rs', R (.tuple #[.agg vs.toArray, .agg us.toArray]) Rs' ∧ Ent Rs Rs') : SQ (Post P fn w0 R) n w0 x e Rs := by
  refine sq_of_w hx (fun w hw => ?_) h
  have a1 : (slots n e)[t]? = some (.pointer (some ⟨b, 0, none⟩)) := by rw [slots_getElem? n e t ‹Lt t n›.out, ‹Lk e t _›.out]
  have a2 : (slots n e)[u]? = some (.pointer (some ⟨b2, 0, none⟩)) := by rw [slots_getElem? n e u hn2.out, h2.out]
  have h3 := run_loadVarA (P := P) (t := ty) (w := w) (b := b) hl fun j v hj => cell_of (hw.get tk) (by simpa using hj)
  have h4 := run_loadVarA (P := P) (t := ty2) (w := w) (b := b2) hl2 fun j v hj => cell_of (hw.get tk2) (by simpa using hj)
  simp [results, hr, act, a1, a2, asAddr, h3, h4]
end
end Go.Gsl
