/- Strings to bytes. -/
import Derived.Test.YtemediifhpgdgaaGreatGA
import Derived.Lib.ConvBytes
import Derived.Laws.StructEq
import Derived.ChangeKeysEq
namespace Go.Gsl
set_option linter.unusedVariables false

theorem modify_push {α : Type} (a : Array α) (x : α) (f : α → α) : (a.push x).modify a.size f = a.push (f x) := by
  apply Array.ext
  · simp
  · intro i h1 h2
    rw [Array.getElem_modify]
    split
    · rename_i e; subst e; simp
    · have : i < a.size := by simp at h2; omega
      simp [Array.getElem_push, this]

theorem bytesWorld_eq (w : World) (e : TypeId) (s : ByteArray) : Lib.bytesWorld w e s = { w with drawn := w.drawn + 1 }.alloc (.cells (Lib.bytesCells w e s) e ((Lib.bytesCells w e s).size, (Lib.bytesCells w e s).size + 1)) := by
  unfold Lib.bytesWorld World.freeze
  simp [World.alloc, World.drew, -World.alloc_eq, -World.drew_eq]
  rw [modify_push]
  simp

theorem strB_size (ns : List Int) : (strB ns).size = ns.length := by
  show (strB ns).data.toList.length = _
  unfold strB
  rw [strB_data]
  simp
theorem bytesCells_strB (w : World) (e : TypeId) (ns : List Int) (hb : ∀ x ∈ ns, 0 ≤ x ∧ x ≤ 255) : ∃ r : List Value, Lib.bytesCells w e (strB ns) = (ns.map (Value.int .u8) ++ r).toArray := by
  refine ⟨List.replicate (grownCap w (strB ns).size 0 e - (strB ns).size) (.int .u8 0), ?_⟩
  unfold Lib.bytesCells
  apply Array.ext'
  simp
  unfold strB
  rw [strB_data]
  simp
  intro x hx
  have := hb x hx
  omega

section
variable {P : Program} {ops : List Oper} {Q : Cont} {n : Nat} {w0 : World} {rest : List Oper} {e : Env} {Rs F : List Res} {ty : TypeId}
/-- []byte(s) -/
theorem sw_strBytes {d : Nat} {s u el : TypeId} {x : Operand} (ns : List Int) {pos : String} {after : Array Edge} [hx : Ev n e x (.string (strB ns))] [hs : Und P s .string] [hu : Und P u (.slice el)] [he : Und P el (.int .u8)]
    (hb : ∀ x ∈ ns, 0 ≤ x ∧ x ≤ 255)
    (k : ∀ b c r fr, SW P ops Q n w0 rest ((d, .slice (some ⟨b, 0, none⟩) ns.length c) :: e) ((b, pts b (.cells (ns.map (Value.int .u8) ++ r).toArray el fr)) :: Rs)) :
    SW P ops Q n w0 ({ dst := some d, op := .convert s u x, type := ty, pos := pos, after := after, guard := none } :: rest) e Rs := by
  intro w hw
  obtain ⟨r, hr⟩ := bytesCells_strB w el ns hb
  have h1 : ∀ o : Oper, o.op = .convert s u x → (execOp (act n e).eval o).run P w = .ok (.value (.slice (some ⟨w.heap.size, 0, none⟩) ns.length (grownCap w (strB ns).size 0 el))) (Lib.bytesWorld w el (strB ns)) := by
    intro o ho
    unfold execOp; rw [ho]
    simp only [hx.out, Sem.run_bind, Lib.run_convert_string_bytes w s u el (strB ns) hs.out hu.out he.out, strB_size]
    simp
  refine wpM_value rfl (h1 _ rfl) ?_
  rw [actM_put]
  have h2 := (hw.draw (w.drawn + 1)).new (.cells (Lib.bytesCells w el (strB ns)) el ((Lib.bytesCells w el (strB ns)).size, (Lib.bytesCells w el (strB ns)).size + 1))
  rw [bytesWorld_eq]
  rw [hr] at h2 ⊢
  exact k w.heap.size _ r _ _ h2
theorem runop_loadAt {t : TypeId} {x : Operand} {b j : Nat} {cs : List Value} {t' : TypeId} {fr : Nat × Nat} (v : Value) [hx : Ev n e x (.pointer (some ⟨b, j, none⟩))] [hn : NonAgg P t] [tk : Take Rs b (pts b (.cells cs.toArray t' fr)) F] (hv : cs[j]? = some v) : RunOp P n w0 e Rs (.load t x) ty v :=
  runop_load (a := ⟨b, j, none⟩) fun w hw => cell_of (hw.get tk) (by simpa using hv)
end

/-! ### rows by functions -/
def cellsOf (f : Nat → Value) (n : Nat) : List Value := (List.range n).map f
theorem cellsOf_len (f : Nat → Value) (n : Nat) : (cellsOf f n).length = n := by unfold cellsOf; simp
theorem cellsOf_get {f : Nat → Value} {n i : Nat} {r : List Value} (h : i < n) : (cellsOf f n ++ r)[i]? = some (f i) := by
  rw [List.getElem?_append_left (by rw [cellsOf_len]; exact h)]
  unfold cellsOf
  rw [List.getElem?_map, List.getElem?_range h]; rfl
theorem cellsOf_congr {f g : Nat → Value} {n : Nat} (h : ∀ j, j < n → f j = g j) : cellsOf f n = cellsOf g n := by
  unfold cellsOf
  exact List.map_congr_left fun j hj => h j (List.mem_range.1 hj)
theorem cellsOf_set {f : Nat → Value} {n i : Nat} {v : Value} {r : List Value} (h : i < n) : (cellsOf f n ++ r).set i v = cellsOf (fun j => if j = i then v else f j) n ++ r := by
  rw [List.set_append_left _ _ (by rw [cellsOf_len]; exact h)]
  congr 1
  refine List.ext_getElem? fun j => ?_
  unfold cellsOf
  rw [List.getElem?_set, List.length_map, List.length_range]
  by_cases hj : j < n
  · rw [List.getElem?_map, List.getElem?_map, List.getElem?_range hj]
    by_cases he : i = j
    · subst he; simp [h]
    · rw [if_neg he]; simp [Ne.symm he]
  · rw [List.getElem?_map, List.getElem?_map, List.getElem?_eq_none (by simp; omega), if_neg (by omega)]; rfl
theorem step_set {n i : Nat} {A B : Nat → Value} {r : List Value} (h : i < n) : (cellsOf (fun j => if j < i then A j else B j) n ++ r).set i (A i) = cellsOf (fun j => if j < i + 1 then A j else B j) n ++ r := by
  rw [cellsOf_set h]
  congr 1
  refine cellsOf_congr fun j _ => ?_
  by_cases he : j = i
  · subst he; rw [if_pos rfl, if_pos (by omega)]
  · rw [if_neg he]
    by_cases hl : j < i
    · rw [if_pos hl, if_pos (by omega)]
    · rw [if_neg hl, if_neg (by omega)]
theorem step_keep {n i : Nat} {A B : Nat → Value} (h : A i = B i) : cellsOf (fun j => if j < i then A j else B j) n = cellsOf (fun j => if j < i + 1 then A j else B j) n := by
  refine cellsOf_congr fun j _ => ?_
  by_cases he : j = i
  · subst he; rw [if_neg (by omega), if_pos (by omega), h]
  · by_cases hl : j < i
    · rw [if_pos hl, if_pos (by omega)]
    · rw [if_neg hl, if_neg (by omega)]
theorem step_zero {n : Nat} {A B : Nat → Value} : cellsOf (fun j => if j < 0 then A j else B j) n = cellsOf B n := cellsOf_congr fun j _ => by rw [if_neg (by omega)]
theorem step_all {n : Nat} {A B : Nat → Value} : cellsOf (fun j => if j < n then A j else B j) n = cellsOf A n := cellsOf_congr fun j h => by rw [if_pos h]
theorem row_all {n : Nat} {A B : Nat → Value} {r : List Value} {t : TypeId} : Obj.cells (cellsOf (fun j => if j < n then A j else B j) n ++ r).toArray t (0, 0) = Obj.cells (cellsOf A n ++ r).toArray t (0, 0) := by rw [step_all]
theorem row_keep {n i : Nat} {A B : Nat → Value} {r : List Value} {t : TypeId} (h : A i = B i) : Obj.cells (cellsOf (fun j => if j < i then A j else B j) n ++ r).toArray t (0, 0) = Obj.cells (cellsOf (fun j => if j < i + 1 then A j else B j) n ++ r).toArray t (0, 0) := by rw [step_keep h]
theorem row_zero {n : Nat} {A B : Nat → Value} {r : List Value} {t : TypeId} : Obj.cells (cellsOf (fun j => if j < 0 then A j else B j) n ++ r).toArray t (0, 0) = Obj.cells (cellsOf B n ++ r).toArray t (0, 0) := by rw [step_zero]
theorem row_congr {n : Nat} {A B : Nat → Value} {r : List Value} {t : TypeId} (h : ∀ j, j < n → A j = B j) : Obj.cells (cellsOf A n ++ r).toArray t (0, 0) = Obj.cells (cellsOf B n ++ r).toArray t (0, 0) := by rw [cellsOf_congr h]
end Go.Gsl

namespace Go.Gsl
set_option linter.unusedVariables false

section
variable {P : Program} {ops : List Oper} {Q : Cont} {n : Nat} {w0 : World} {rest : List Oper} {e : Env} {Rs F : List Res} {ty : TypeId}
theorem pure_indexA {t et : TypeId} {x y : Operand} {b off m sz : Nat} {k : IntKind} {i : Int} [hx : Ev n e x (.pointer (some ⟨b, off, none⟩))] [hy : Ev n e y (.int k i)] [hu : Und P t (.array m et)] [hs : SizeOf P et sz] (h : 0 ≤ i ∧ i < m) :
    PureOp P n e (.indexAddr t x y) ty (.pointer (some ⟨b, off + i.toNat * sz, none⟩)) :=
  ⟨fun o h1 _ w => by
    unfold execOp; rw [h1]
    simp [hx.out, hy.out, Instr.indexAt, Instr.sureAddr, asIntOf, run_und (t := t), h, hs.out, Addr.add]⟩
theorem runop_idxA {t et : TypeId} {x y : Operand} {b off m : Nat} {k : IntKind} {i : Int} (j : Nat) [hx : Ev n e x (.pointer (some ⟨b, off, none⟩))] [hy : Ev n e y (.int k i)] [hu : Und P t (.array m et)] [hs : SizeOf P et 1] (h : i = j ∧ j < m) :
    RunOp P n w0 e Rs (.indexAddr t x y) ty (.pointer (some ⟨b, off + j, none⟩)) := by
  have h1 : PureOp P n e (.indexAddr t x y) ty (.pointer (some ⟨b, off + i.toNat * 1, none⟩)) := pure_indexA (by omega)
  rw [show off + i.toNat * 1 = off + j by omega] at h1
  exact @RunOp.pure P n w0 e Rs _ _ _ h1
theorem sw_idxA {d : Nat} {t et : TypeId} {x y : Operand} {b off m : Nat} {k : IntKind} {i : Int} {pos : String} {after : Array Edge} (j : Nat) [hx : Ev n e x (.pointer (some ⟨b, off, none⟩))] [hy : Ev n e y (.int k i)] [hu : Und P t (.array m et)] [hs : SizeOf P et 1] (h : i = j ∧ j < m)
    (q : SW P ops Q n w0 rest ((d, .pointer (some ⟨b, off + j, none⟩)) :: e) Rs) : SW P ops Q n w0 ({ dst := some d, op := .indexAddr t x y, type := ty, pos := pos, after := after, guard := none } :: rest) e Rs :=
  sw_op (h := runop_idxA j h) q
end
end Go.Gsl

namespace Go.Gsl
set_option linter.unusedVariables false

/-- block b's cell i is v -/
def cellF (b i : Nat) (v : Value) : HProp := fun h => ∃ cs t fr f, h b = some (.cells cs t fr, f) ∧ cs[i]? = some v

section
variable {P : Program} {ops : List Oper} {Q : Cont} {n : Nat} {w0 : World} {e : Env} {Rs F : List Res} {ty : TypeId}
instance Sub.cell (b i : Nat) (v : Value) (l : List Value) (t : TypeId) (fr : Nat × Nat) (Rs F G : List Res) [h : Take Rs b (pts b (.cells l.toArray t fr)) F] [hc : TupAt l i v] [h2 : Sub F G] : Sub Rs ((b, cellF b i v) :: G) :=
  ⟨h.ent.trans (Ent.trans (Ent.head fun x hx => ⟨l.toArray, t, fr, false, hx.1, by simpa using hc.out⟩) (Ent.cons _ h2.ent))⟩
theorem runop_loadCell {t : TypeId} {x : Operand} {b i : Nat} (v : Value) [hx : Ev n e x (.pointer (some ⟨b, i, none⟩))] [hn : NonAgg P t] [tk : Take Rs b (cellF b i v) F] : RunOp P n w0 e Rs (.load t x) ty v :=
  runop_load (a := ⟨b, i, none⟩) fun w hw => by
    obtain ⟨_, h, hf, x, y, hd, hj, ⟨cs, t, fr, f, h1, h2⟩, _⟩ := hw.ent tk.ent
    have h3 : h b = some (.cells cs t fr, f) := by rw [hj]; simp [hjoin, h1]
    exact cell_of (hf b _ f h3) h2

variable {fuel : Nat} {listed : Array Bool} {G : List Res}
/-- 'i' or 'j' may come up. -/
theorem sg_two {oi oj : Oper} (i j : Nat) (hi : ops[i]? = some oi) (hj : ops[j]? = some oj) (hr : Region.ready .any ops.toArray listed = [i, j]) (hq : Q.r = none) [hG : Sub Rs G]
    (k1 : SW P ops (Q.draws P ops w0 G fuel (listed.setIfInBounds i true)) n w0 [oi] e Rs) (k2 : SW P ops (Q.draws P ops w0 G fuel (listed.setIfInBounds j true)) n w0 [oj] e Rs) : SG P ops Q n w0 G (fuel + 1) listed e Rs := by
  have one : ∀ {o : Oper} (i : Nat) (hi : ops[i]? = some o) (k : SW P ops (Q.draws P ops w0 G fuel (listed.setIfInBounds i true)) n w0 [o] e Rs) (w : World) (hw : Sat w0 w Rs),
      wpOpIn (fz none) 0 P ops.toArray Q.q i (wpAnyC P .any ops.toArray (fun w => Sat w0 w G) Q.q fuel (listed.setIfInBounds i true)) (actM Q.m n e) w := by
    intro o i hi k w hw
    have hi' : ops.toArray[i]? = some o := by simpa using hi
    have := k w hw
    unfold wpOpIn
    simp only [hi']
    have hq' : (Q.draws P ops w0 G fuel (listed.setIfInBounds i true)).r = none := hq
    rw [hq', show (Q.draws P ops w0 G fuel (listed.setIfInBounds i true)).m = Q.m from rfl] at this
    unfold wpListIn at this
    split
    · rename_i hw'
      rw [if_pos hw'] at this
      obtain ⟨h1, h⟩ := this
      refine ⟨h1, ?_⟩
      unfold Oper.uponIn at h ⊢
      exact h
    · rename_i hw'
      rw [if_neg hw'] at this
      exact this
  refine ⟨hq, fun w hw => ⟨hw.ent hG.ent, fun h => (by rw [h] at hr; cases hr), fun m hm => ?_⟩⟩
  rw [hr] at hm
  rcases List.mem_cons.1 hm with rfl | hm
  · exact one m hi k1 w hw
  · rw [List.mem_singleton] at hm
    subst hm
    exact one m hj k2 w hw

variable {rest : List Oper}
/-- append(s, x...), s being nil and nothing coming -/
theorem sw_append_nn {d m : Nat} {t el : TypeId} {nb : Nat} {x y : Operand} {z : Value} {c' : Nat} {a : Option Addr} {pos : String} {after : Array Edge}
    [hx : Ev n e x (.slice none 0 0)] [hy : Ev n e y (.slice a m c')] [he : Elem P t el 1 nb z] (hm : m = 0)
    (k : SW P ops Q n w0 rest ((d, .slice none 0 0) :: e) Rs) :
    SW P ops Q n w0 ({ dst := some d, op := .call { callee := .builtin .append, args := [x, y].toArray, argTypes := [t, t].toArray }, type := ty, pos := pos, after := after, guard := none } :: rest) e Rs := by
  intro w hw
  subst hm
  obtain ⟨i0, hi, hz0, hz1, hz2⟩ := info_parts he.info
  have hf : ∀ ad : Addr, (Builtin.firstCells i0.size 0 (.slice (some ad) 0 c')).run P w = .ok #[] w := fun ad => run_firstCells_some w i0.size 0 ad 0 c' [] (by simp) (by simp)
  have hr : (Builtin.append_ #[t, t] ty #[.slice none 0 0, .slice a 0 c']).run P w = .ok (.slice none 0 0) w := by
    cases a with
    | none => simp [Builtin.append_, run_underlying he.und, sizeOf, typeInfo, hi, Builtin.lenOf, run_firstCells_none]
    | some ad => simp [Builtin.append_, run_underlying he.und, sizeOf, typeInfo, hi, Builtin.lenOf, hf]
  refine wpM_value rfl (run_call_append rfl w hr) ?_
  rw [actM_put]
  exact k w hw
end
end Go.Gsl

namespace Go.Gsl
set_option linter.unusedVariables false

section
variable {P : Program} {ops : Array Oper} {Q : Exit → Act → World → Prop} {md : Region.Mode} {C : World → Prop} {r : Option Nat}

/-- In every world of the class the operation leaves 'v', and the world as it is. -/
def YieldsR (P : Program) (ops : Array Oper) (C : World → Prop) (o : Oper) (v : Value) (a : Act) : Prop :=
  (Region.wanted o (yielded ops a.tmps) = true ∧ ∀ w, C w → (execOp a.eval o).run P w = .ok (.value v) w) ∨
  (Region.wanted o (yielded ops a.tmps) = false ∧ v = undef)

theorem YieldsR.wpOp {i : Nat} {o : Oper} {v : Value} {a : Act} (hi : ops[i]? = some o) (hd : ∀ c, o.op ≠ .defer c) (hy : YieldsR P ops C o v a)
    {K : Act → World → Prop} {w : World} (hw : C w) (h : K (a.put o.dst v) w) : wpOpIn (fz r) 0 P ops Q i K a w := by
  unfold Go.wpOpIn
  simp only [hi]
  rcases hy with ⟨h1, hv⟩ | ⟨h1, rfl⟩
  · simp only [h1, if_true, Oper.wpIn, show (fz r).round = r from rfl, Oper.semAt_eq r _ _ hd, hv w hw, Oper.uponIn]; exact ⟨fun _ _ => trivial, h⟩
  · simp only [h1, Bool.false_eq_true, if_false]; exact ⟨fun _ _ => trivial, h⟩

theorem YieldsR.of_same {o : Oper} {v : Value} {a a' : Act} (hy : YieldsR P ops C o v a) (he : execOp a'.eval o = execOp a.eval o)
    (hw : Region.wanted o (yielded ops a'.tmps) = Region.wanted o (yielded ops a.tmps)) : YieldsR P ops C o v a' := by
  unfold YieldsR at *
  rw [he, hw]
  exact hy

theorem wpOp_putR {j : Nat} {oi oj : Oper} {v : Value} (hj : ops[j]? = some oj) (hap : oi.apart ops oj = true)
    (hsi : ∀ cs b, oi.op ≠ .select cs b) (hsj : ∀ cs b, oj.op ≠ .select cs b) (hdj : ∀ c, oj.op ≠ .defer c)
    (hQ : ∀ c a w, Q (.panic c) (a.put oi.dst v) w → Q (.panic c) a w) {K : Act → World → Prop} {a : Act} {w : World}
    (hy : YieldsR P ops C oi v a) (h : wpOpIn (fz r) 0 P ops Q j K (a.put oi.dst v) w) :
    wpOpIn (fz r) 0 P ops Q j (fun a' w' => YieldsR P ops C oi v a' ∧ K (a'.put oi.dst v) w') a w := by
  obtain ⟨h1, h2, h3⟩ := Oper.apart_spec hap
  have keep : ∀ (a : Act), YieldsR P ops C oi v a → ∀ u, YieldsR P ops C oi v (a.put oj.dst u) := fun a hy u =>
    hy.of_same (execOp_put oi hsi a oj.dst u h3) (wanted_put oi a oj.dst u h3)
  have keepD : ∀ d, YieldsR P ops C oi v { a with defers := d :: a.defers } := fun d => hy.of_same rfl rfl
  unfold wpOpIn at *
  simp only [hj] at *
  rw [wanted_put oj a oi.dst v h1] at h
  have hro : (fz r).round = r := rfl
  split
  · rename_i hw
    simp only [hw, if_true] at h
    unfold Oper.wpIn at *
    refine ⟨fun _ _ => trivial, ?_⟩
    have h := h.2
    rw [hro, Oper.semAt_eq r _ _ hdj, execOp_put oj hsj a oi.dst v h1] at h
    rw [hro, Oper.semAt_eq r _ _ hdj]
    generalize (execOp a.eval oj).run P w = r at *
    cases r with
    | ok x w' =>
      cases x <;> simp only [Oper.uponIn] at h ⊢
      case value u => exact ⟨keep a hy u, by rw [← Act.put_comm a v u h2]; exact h⟩
      case skip => exact ⟨keep a hy _, by rw [← Act.put_comm a v undef h2]; exact h⟩
      case defer d =>
        refine ⟨keep _ (keepD d) _, ?_⟩
        rw [← Act.put_comm _ v undef h2, ← Act.put_defers]
        exact h
      case enter f args =>
        refine ⟨h.1, CallsIn.mono h.2 fun e w'' he => ?_⟩
        cases e with
        | returned u => exact ⟨keep a hy u, by rw [← Act.put_comm a v u h2]; exact he⟩
        | panicked c => exact hQ _ _ _ he
        | outgrown => exact he
      case row row args => exact ⟨h.1, RowsIn.mono h.2 fun u w'' he => ⟨keep a hy u, by rw [← Act.put_comm a v u h2]; exact he⟩⟩
      case round l f tmps assign body =>
        refine ⟨h.1, RoundIn.mono h.2 fun e w'' he => ?_⟩
        cases e with
        | returned u => exact ⟨keep a hy u, by rw [← Act.put_comm a v u h2]; exact he⟩
        | panicked c => exact hQ _ _ _ he
        | outgrown => exact he
    | halt x w' =>
      cases x <;> simp only [Oper.uponIn] at h ⊢
      case panic u => exact hQ _ _ _ h
  · rename_i hw
    simp only [hw] at h
    exact ⟨fun _ _ => trivial, keep a hy _, by rw [← Act.put_comm a v undef h2]; exact h.2⟩

/-- Whatever order is picked from here on, each world on the way being of the class. -/
def wpAnyR (r : Option Nat) (P : Program) (md : Region.Mode) (ops : Array Oper) (C : World → Prop) (Q : Exit → Act → World → Prop) : Nat → Array Bool → Act → World → Prop
  | 0, listed, a, w => C w ∧ Region.ready md ops listed = [] ∧ Q .normal a w
  | fuel + 1, listed, a, w =>
    C w ∧ (Region.ready md ops listed = [] → Q .normal a w) ∧
    ∀ i ∈ Region.ready md ops listed, wpOpIn (fz r) 0 P ops Q i (wpAnyR r P md ops C Q fuel (listed.setIfInBounds i true)) a w

theorem wpAnyR.cls {fuel : Nat} {listed : Array Bool} {a : Act} {w : World} (h : wpAnyR r P md ops C Q fuel listed a w) : C w := by
  cases fuel with
  | zero => exact h.1
  | succ f => exact h.1

theorem wpAny_of_R : ∀ (fuel : Nat) (listed : Array Bool) (a : Act) (w : World), wpAnyR r P md ops C Q fuel listed a w → wpAnyIn (fz r) 0 P md ops Q fuel listed a w
  | 0, _, _, _, h => h.2
  | fuel + 1, _, _, _, h => ⟨h.2.1, fun i hi => wpOpIn_mono (fun a' w' => wpAny_of_R fuel _ a' w') (h.2.2 i hi)⟩

theorem wpAnyR_first {i : Nat} {oi : Oper} {v : Value} (hi : ops[i]? = some oi) (hsel : ∀ (j : Nat) (o : Oper) cs b, ops[j]? = some o → o.op ≠ .select cs b) (hdef : ∀ (j : Nat) (o : Oper) c, ops[j]? = some o → o.op ≠ .defer c)
    (hQ : ∀ c a w, Q (.panic c) (a.put oi.dst v) w → Q (.panic c) a w) :
    ∀ (fuel : Nat) (listed : Array Bool) (a : Act) (w : World),
      (∀ j oj, ops[j]? = some oj → j ≠ i → listed.getD j true = false → (∀ e ∈ oj.after, Region.binds md e = true → e.on ≠ i) → oi.apart ops oj = true) →
      i ∈ Region.ready md ops listed → YieldsR P ops C oi v a →
      wpAnyR r P md ops C Q fuel (listed.setIfInBounds i true) (a.put oi.dst v) w → wpAnyR r P md ops C Q (fuel + 1) listed a w := by
  intro fuel
  induction fuel with
  | zero =>
    intro listed a w _ hr hy H
    refine ⟨H.cls, fun h => (by rw [h] at hr; cases hr), fun j hj => ?_⟩
    by_cases hji : j = i
    · subst hji; exact hy.wpOp hi (fun c => hdef _ _ c hi) H.cls H
    · have := ready_mono hj hji
      rw [H.2.1] at this
      cases this
  | succ fuel ih =>
    intro listed a w hfree hr hy H
    refine ⟨H.cls, fun h => (by rw [h] at hr; cases hr), fun j hj => ?_⟩
    by_cases hji : j = i
    · subst hji; exact hy.wpOp hi (fun c => hdef _ _ c hi) H.cls H
    · have h1 := H.2.2 j (ready_mono hj hji)
      obtain ⟨hjun, oj, hoj, hall⟩ := mem_ready.1 hj
      have hnot : ∀ e ∈ oj.after, Region.binds md e = true → e.on ≠ i := fun e he hb heq => by
        have h1 := hall e he hb
        have h0 := (mem_ready.1 hr).1
        rw [heq] at h1
        rcases Nat.lt_or_ge i listed.size with h' | h'
        · simp [h'] at h0 h1; rw [h0] at h1; cases h1
        · simp [Array.getElem?_eq_none h'] at h1
      have h2 := wpOp_putR hoj (hfree j oj hoj hji hjun hnot) (fun cs b => hsel i oi cs b hi) (fun cs b => hsel j oj cs b hoj) (fun c => hdef j oj c hoj) hQ hy h1
      have hfree' : ∀ k ok, ops[k]? = some ok → k ≠ i → (listed.setIfInBounds j true).getD k true = false →
          (∀ e ∈ ok.after, Region.binds md e = true → e.on ≠ i) → oi.apart ops ok = true := fun k ok hk hki hun hno => by
        refine hfree k ok hk hki ?_ hno
        by_cases hjk : j = k
        · subst hjk; exact hjun
        · rw [getD_set_ne true hjk] at hun; exact hun
      refine wpOpIn_mono (fun a' w' h3 => ih (listed.setIfInBounds j true) a' w' hfree' (ready_mono hr (Ne.symm hji)) h3.1 ?_) h2
      rw [Array.setIfInBounds_comm _ _ hji]
      exact h3.2

end

/-- no 'defer' among these -/
def noDefer (ops : List Oper) : Bool := ops.all fun o => match o.op with
  | .defer _ => false
  | _ => true
theorem noDefer_spec {ops : List Oper} (h : noDefer ops = true) : ∀ (j : Nat) (o : Oper) c, ops.toArray[j]? = some o → o.op ≠ .defer c := by
  intro j o c hj he
  have h1 := (List.all_eq_true.1 h) o (List.mem_of_getElem? (by simpa using hj))
  rw [he] at h1
  cases h1

section
variable {P : Program} {ops : List Oper} {Q : Cont} {n : Nat} {w0 : World} {l rest : List Oper} {e : Env} {Rs Rs' F G : List Res} {fuel : Nat} {listed : Array Bool}

/-- Whatever order is picked from here on: 'listed' has been done; 'G' is what no operation turns that was or will be taken out of turn. -/
def SH (P : Program) (ops : List Oper) (Q : Cont) (n : Nat) (w0 : World) (G : List Res) (fuel : Nat) (listed : Array Bool) (e : Env) (Rs : List Res) : Prop :=
  noDefer ops = true ∧ ∀ w, Sat w0 w Rs → wpAnyR Q.r P .any ops.toArray (fun w => Sat w0 w G) Q.q fuel listed (actM Q.m n e) w

theorem sc_drawH {id : Nat} {m : Nat} (G : List Res) (hm : P.follows .mixedOrders = true) (hl : l.length = m) (h : SH P l Q n w0 G m (Array.replicate m false) e Rs) : SC P Q n w0 (.region id l.toArray true) e Rs := by
  subst hl
  intro w hw
  obtain ⟨hr, h⟩ := h
  refine wpIn_region_any hm ?_
  have := wpAny_of_R _ _ _ _ (h _ (hw.draw (w.drawn + 1)))
  simpa using this

theorem sc_drawCH {id : Nat} {m : Nat} (G : List Res) (hc : Calm Q) (hm : P.follows .mixedOrders = true) (hl : l.length = m) (h : Calm Q → SH P l Q n w0 G m (Array.replicate m false) e Rs) : SC P Q n w0 (.region id l.toArray true) e Rs := sc_drawH G hm hl (h hc)

theorem sh_take {d : Nat} {op : Op} {ty : TypeId} {pos : String} {after : Array Edge} {v : Value} (i : Nat) (hc : Calm Q) (hi : ops[i]? = some { dst := some d, op := op, type := ty, pos := pos, after := after, guard := none })
    (hs : Region.noSelect ops.toArray = true) (hf : Region.free .any ops.toArray listed i = true) (hr : (Region.ready .any ops.toArray listed).contains i = true) [h : RunOp P n w0 e G op ty v]
    (k : SH P ops Q n w0 G fuel (listed.setIfInBounds i true) ((d, v) :: e) Rs) : SH P ops Q n w0 G (fuel + 1) listed e Rs := by
  refine ⟨k.1, fun w hw => ?_⟩
  have hi' : ops.toArray[i]? = some { dst := some d, op := op, type := ty, pos := pos, after := after, guard := none } := by simpa using hi
  refine wpAnyR_first hi' (Region.noSelect_spec hs) (noDefer_spec k.1) (fun c a w => hc c a _ v w) fuel listed _ w (Region.free_spec hi' hf) (by simpa using hr) (.inl ⟨by simp [Region.wanted], fun w hw => h.run _ rfl rfl w hw⟩) ?_
  rw [actM_put]; exact k.2 w hw

theorem sh_take_as {d : Nat} {op : Op} {ty : TypeId} {pos : String} {after : Array Edge} {v v' : Value} (i : Nat) (hc : Calm Q) (hi : ops[i]? = some { dst := some d, op := op, type := ty, pos := pos, after := after, guard := none })
    (hs : Region.noSelect ops.toArray = true) (hf : Region.free .any ops.toArray listed i = true) (hr : (Region.ready .any ops.toArray listed).contains i = true) [h : RunOp P n w0 e G op ty v] (hv : v = v')
    (k : SH P ops Q n w0 G fuel (listed.setIfInBounds i true) ((d, v') :: e) Rs) : SH P ops Q n w0 G (fuel + 1) listed e Rs := by
  subst hv; exact sh_take i hc hi hs hf hr k

theorem sh_skip {d : Nat} {op : Op} {ty : TypeId} {pos : String} {after : Array Edge} {j t : Nat} {b c : Bool} (i : Nat) (hc : Calm Q) (hi : ops[i]? = some { dst := some d, op := op, type := ty, pos := pos, after := after, guard := some (j, b) })
    (hs : Region.noSelect ops.toArray = true) (hf : Region.free .any ops.toArray listed i = true) (hr : (Region.ready .any ops.toArray listed).contains i = true) [hd : DstAt ops j t] [hl : Lk e t (.bool c)] [hn : Lt t n] [hb : BNe c b]
    (k : SH P ops Q n w0 G fuel (listed.setIfInBounds i true) ((d, undef) :: e) Rs) : SH P ops Q n w0 G (fuel + 1) listed e Rs := by
  refine ⟨k.1, fun w hw => ?_⟩
  have hi' : ops.toArray[i]? = some { dst := some d, op := op, type := ty, pos := pos, after := after, guard := some (j, b) } := by simpa using hi
  refine wpAnyR_first (v := undef) hi' (Region.noSelect_spec hs) (noDefer_spec k.1) (fun c a w => hc c a _ undef w) fuel listed _ w (Region.free_spec hi' hf) (by simpa using hr) (.inr ⟨?_, rfl⟩) ?_
  · simp only [Region.wanted, actM_tmps, yielded_of (n := n) (e := e) (ops := ops) (j := j) (t := t) (b := c)]
    simpa using hb.out
  · rw [actM_put]; exact k.2 w hw

theorem sh_take_g {d : Nat} {op : Op} {ty : TypeId} {pos : String} {after : Array Edge} {j t : Nat} {b : Bool} {v : Value} (i : Nat) (hc : Calm Q) (hi : ops[i]? = some { dst := some d, op := op, type := ty, pos := pos, after := after, guard := some (j, b) })
    (hs : Region.noSelect ops.toArray = true) (hf : Region.free .any ops.toArray listed i = true) (hr : (Region.ready .any ops.toArray listed).contains i = true) [hd : DstAt ops j t] [hl : Lk e t (.bool b)] [hn : Lt t n] [h : RunOp P n w0 e G op ty v]
    (k : SH P ops Q n w0 G fuel (listed.setIfInBounds i true) ((d, v) :: e) Rs) : SH P ops Q n w0 G (fuel + 1) listed e Rs := by
  refine ⟨k.1, fun w hw => ?_⟩
  have hi' : ops.toArray[i]? = some { dst := some d, op := op, type := ty, pos := pos, after := after, guard := some (j, b) } := by simpa using hi
  refine wpAnyR_first hi' (Region.noSelect_spec hs) (noDefer_spec k.1) (fun c a w => hc c a _ v w) fuel listed _ w (Region.free_spec hi' hf) (by simpa using hr) (.inl ⟨?_, fun w hw => h.run _ rfl rfl w hw⟩) ?_
  · simp only [Region.wanted, actM_tmps, yielded_of (n := n) (e := e) (ops := ops) (j := j) (t := t) (b := b)]
    simp
  · rw [actM_put]; exact k.2 w hw

theorem sh_take_g_as {d : Nat} {op : Op} {ty : TypeId} {pos : String} {after : Array Edge} {j t : Nat} {b : Bool} {v v' : Value} (i : Nat) (hc : Calm Q) (hi : ops[i]? = some { dst := some d, op := op, type := ty, pos := pos, after := after, guard := some (j, b) })
    (hs : Region.noSelect ops.toArray = true) (hf : Region.free .any ops.toArray listed i = true) (hr : (Region.ready .any ops.toArray listed).contains i = true) [hd : DstAt ops j t] [hl : Lk e t (.bool b)] [hn : Lt t n] [h : RunOp P n w0 e G op ty v] (hv : v = v')
    (k : SH P ops Q n w0 G fuel (listed.setIfInBounds i true) ((d, v') :: e) Rs) : SH P ops Q n w0 G (fuel + 1) listed e Rs := by
  subst hv; exact sh_take_g (j := j) (t := t) (b := b) i hc hi hs hf hr k

/-- A value that is not decided yet, both ways. -/
theorem sh_split {c : Bool} {p : Prop} (t : Nat) [hl : Lk e t (.bool c)] [hp : BP c p] (k1 : p → SH P ops Q n w0 G fuel listed ((t, .bool true) :: e) Rs) (k2 : ¬ p → SH P ops Q n w0 G fuel listed ((t, .bool false) :: e) Rs) : SH P ops Q n w0 G fuel listed e Rs := by
  cases c with
  | true => refine ⟨(k1 (hp.out.1 rfl)).1, fun w hw => ?_⟩; rw [actM_says (e := e) (l := [(t, .bool true)]) ⟨hl.out, trivial⟩]; exact (k1 (hp.out.1 rfl)).2 w hw
  | false => refine ⟨(k2 (fun h => by have := hp.out.2 h; cases this)).1, fun w hw => ?_⟩; rw [actM_says (e := e) (l := [(t, .bool false)]) ⟨hl.out, trivial⟩]; exact (k2 (fun h => by have := hp.out.2 h; cases this)).2 w hw

/-- the region's rest -/
def Cont.drawsR (P : Program) (ops : List Oper) (w0 : World) (G : List Res) (fuel : Nat) (listed : Array Bool) (Q : Cont) : Cont :=
  ⟨Q.r, Q.m, Exit.then (fun a w => wpAnyR Q.r P .any ops.toArray (fun w => Sat w0 w G) Q.q fuel listed a w) Q.q⟩

/-- Only 'i' may come up: it is carried out as in any list. -/
theorem sh_one {o : Oper} (i : Nat) (hi : ops[i]? = some o) (hr : Region.ready .any ops.toArray listed = [i]) (hq : noDefer ops = true) [hG : Sub Rs G]
    (k : SW P ops (Q.drawsR P ops w0 G fuel (listed.setIfInBounds i true)) n w0 [o] e Rs) : SH P ops Q n w0 G (fuel + 1) listed e Rs := by
  refine ⟨hq, fun w hw => ⟨hw.ent hG.ent, fun h => (by rw [h] at hr; cases hr), fun j hj => ?_⟩⟩
  rw [hr, List.mem_singleton] at hj
  subst hj
  have hi' : ops.toArray[j]? = some o := by simpa using hi
  have := k w hw
  unfold wpOpIn
  simp only [hi']
  rw [show (Q.drawsR P ops w0 G fuel (listed.setIfInBounds j true)).r = Q.r from rfl, show (Q.drawsR P ops w0 G fuel (listed.setIfInBounds j true)).m = Q.m from rfl] at this
  unfold wpListIn at this
  split
  · rename_i hw'
    rw [if_pos hw'] at this
    obtain ⟨h1, h⟩ := this
    refine ⟨h1, ?_⟩
    unfold Oper.uponIn at h ⊢
    exact h
  · rename_i hw'
    rw [if_neg hw'] at this
    exact this

theorem sh_back (h : SH P ops Q n w0 G fuel listed e Rs) : SQ (Q.drawsR P ops w0 G fuel listed) n w0 .normal e Rs := fun w hw => h.2 w hw

theorem sh_done (hr : Region.ready .any ops.toArray listed = []) (hq : noDefer ops = true) [hG : Sub Rs G] (h : SQ Q n w0 .normal e Rs) : SH P ops Q n w0 G 0 listed e Rs := ⟨hq, fun w hw => ⟨hw.ent hG.ent, hr, h w hw⟩⟩

theorem Calm.rEnd {lp : Nat} {rc : Loop} {S : List Res} {Sx : Code → List Res} {F' : List Res} : Calm (Cont.rEnd P lp rc S Sx w0 F') := fun c a d v w x => x.elim
end
end Go.Gsl

namespace Go.Gsl
set_option linter.unusedVariables false

/-- What a method of a value of this type is. -/
class Meth (P : Program) (t : TypeId) (name : String) (f : outParam FuncId) : Prop where
  out : ∀ (v : Value) (args : Array Value) (w : World), (callMethod (.iface t v) name args).run P w = (callFunc f (#[v] ++ args)).run P w
theorem Meth.of {P : Program} {t : TypeId} {name : String} {f : FuncId} {fs : Array Field} (hu : P.underlying t = some (.struct fs)) (hm : ((P.info? t).map fun i => ((i.methods.find? (·.name == name)).map fun m => (m.path.isEmpty, m.func))) = some (some (true, some (f, false)))) : Meth P t name f := by
  refine ⟨fun v args w => ?_⟩
  obtain ⟨i, hi, h1⟩ := Option.map_eq_some_iff.1 hm
  obtain ⟨m, hm1, h2⟩ := Option.map_eq_some_iff.1 h1
  simp only [Prod.mk.injEq, Array.isEmpty_iff] at h2
  obtain ⟨h3, h4⟩ := h2
  have h5 : (method (P.types.size + Made.depth) t v name).run P w = .ok (f, v) w := by
    have : P.types.size + Made.depth = (P.types.size + (Made.depth - 1)) + 1 := by simp [Made.depth]
    rw [this]
    simp [method, typeInfo, hi, hm1, h3, follow, h4, receiverAt, run_underlying hu, Place.get]
  simp [callMethod, run_program, h5]

section
variable {P : Program} {ops : List Oper} {Q : Cont} {n : Nat} {w0 : World} {rest : List Oper} {e : Env} {Rs F : List Res} {ty : TypeId}
instance PureOp.mkIfaceS (x : Operand) (v : Value) (t : TypeId) (fs : Array Field) [h : Ev n e x v] [hu : Und P t (.struct fs)] : PureOp P n e (.makeInterface t x) ty (.iface t v) :=
  ⟨fun o h1 _ w => by unfold execOp; rw [h1]; simp [h.out, Instr.makeInterface, run_und (t := t)]⟩

theorem sw_invoke {d : Nat} {f : FuncId} {name : String} {t : TypeId} {u : Value} {x : Operand} {args : List Operand} {ts : Array TypeId} {pos : String} {after : Array Edge} {vs : List Value} {ks : List Nat} {rs : List HProp} {Post : List Res → Value → List Res → Prop}
    [hx : Ev n e x (.iface t u)] [hm : Meth P t name f] (hs : Spec P f (u :: vs) ks rs Post) [hb : Body P f] [ha : EvL n e args vs] [hsp : Split Rs ks rs F]
    (k : ∀ v Rs', Post F v Rs' → SW P ops Q n w0 rest ((d, v) :: e) Rs') :
    SW P ops Q n w0 ({ dst := some d, op := .call { callee := .invoke x name, args := args.toArray, argTypes := ts }, type := ty, pos := pos, after := after, guard := none } :: rest) e Rs := by
  intro w hw
  have h1 : ∀ o : Oper, o.op = .call { callee := .invoke x name, args := args.toArray, argTypes := ts } → (execOp (act n e).eval o).run P w = (callFunc f (u :: vs).toArray).run P w := by
    intro o ho
    unfold execOp
    rw [ho]
    have h2 : (args.toArray.map (act n e).eval) = vs.toArray := by rw [List.map_toArray, ha.out]
    simp only [resolve, hx.out, h2, Sem.run_bind, Sem.run_pure, Result.andThen_ok, invoke]
    have h3 : (#[Value.iface t u] ++ vs.toArray)[0]? = some (.iface t u) := by simp
    have h4 : (#[Value.iface t u] ++ vs.toArray).extract 1 (#[Value.iface t u] ++ vs.toArray).size = vs.toArray := by simp
    simp only [h3, h4, hm.out]
    simp
  refine wpM_enter rfl (by rw [h1 _ rfl, hb.out]) (hs w0 F w (hw.ent hsp.ent)) ?_
  rintro x w' ⟨v, Rs', rfl, hp, hw'⟩
  refine ⟨v, rfl, ?_⟩
  rw [actM_put]
  exact k v Rs' hp w' hw'

/-- an element of an array's value -/
theorem sw_indexV {d : Nat} {t et : TypeId} {x y : Operand} {cs : List Value} {k : IntKind} {i : Int} {m : Nat} {pos : String} {after : Array Edge} (j : Nat) (v : Value) [hx : Ev n e x (.agg cs.toArray)] [hy : Ev n e y (.int k i)] [hu : Und P t (.array m et)] [hn : NonAgg P et] [hs : SizeOf P et 1]
    (h : i = j ∧ j < m) (hv : cs[j]? = some v)
    (q : SW P ops Q n w0 rest ((d, v) :: e) Rs) : SW P ops Q n w0 ({ dst := some d, op := .index t x y, type := ty, pos := pos, after := after, guard := none } :: rest) e Rs := by
  obtain ⟨rfl, hj⟩ := h
  refine sw_op (h := @RunOp.pure P n w0 e Rs _ _ _ ⟨fun o h1 _ w => ?_⟩) q
  unfold execOp; rw [h1]
  have h2 : (0 : Int) ≤ (j : Int) ∧ (j : Int) < (m : Int) := by omega
  simp [hx.out, hy.out, Instr.index, asIntOf, run_und (t := t), hj, hs.out, part, hn.out, hv]

/-- all of an array as a slice -/
theorem runop_sliceA {t et : TypeId} {x : Operand} {b m : Nat} [hx : Ev n e x (.pointer (some ⟨b, 0, none⟩))] [hu : Und P t (.array m et)] [hs : SizeOf P et 1] :
    RunOp P n w0 e Rs (.slice t x none none none) ty (.slice (some ⟨b, 0, none⟩) m m) := by
  refine @RunOp.pure P n w0 e Rs _ _ _ ⟨fun o h1 _ w => ?_⟩
  unfold execOp; rw [h1]
  have : (Instr.sliceBounds false m m none none none).run P w = .ok (0, m, m) w := by simp [Instr.sliceBounds]
  simp [hx.out, Instr.sliceAt, run_und (t := t), Instr.sureAddr, this, hs.out, Addr.add]
theorem sw_sliceA {d : Nat} {t et : TypeId} {x : Operand} {b m : Nat} {pos : String} {after : Array Edge} [hx : Ev n e x (.pointer (some ⟨b, 0, none⟩))] [hu : Und P t (.array m et)] [hs : SizeOf P et 1]
    (q : SW P ops Q n w0 rest ((d, .slice (some ⟨b, 0, none⟩) m m) :: e) Rs) : SW P ops Q n w0 ({ dst := some d, op := .slice t x none none none, type := ty, pos := pos, after := after, guard := none } :: rest) e Rs :=
  sw_op (h := runop_sliceA) q

/-- copy(dst, src) into a row of one's own, of whichever type it was made -/
theorem sw_copyT {d : Nat} {t t' el tb : TypeId} {nb : Nat} {x y : Operand} {z : Value} {b o dl dc sl sc : Nat} {a : Option Addr} {cs : List Value} (src : List Value) {pos : String} {after : Array Edge}
    [hx : Ev n e x (.slice (some ⟨b, o, none⟩) dl dc)] [hy : Ev n e y (.slice a sl sc)] [he : Elem P t el 1 nb z] [tk : Take Rs b (pts b (.cells cs.toArray tb (0, 0))) F]
    (hsrc : ∀ w, Sat w0 w Rs → ∀ j v, src[j]? = some v → ∃ ad, a = some ad ∧ w.cell? (ad.add j) = some v) (h1 : ∀ v ∈ src, v.oneCell' = true) (h : src.length = min sl dl ∧ o + src.length ≤ cs.length)
    (k : SW P ops Q n w0 rest ((d, .int .i64 src.length) :: e) ((b, pts b (.cells (cs.take o ++ src ++ cs.drop (o + src.length)).toArray tb (0, 0))) :: F)) :
    SW P ops Q n w0 ({ dst := some d, op := .call { callee := .builtin .copy, args := [x, y].toArray, argTypes := [t, t'].toArray }, type := ty, pos := pos, after := after, guard := none } :: rest) e Rs := by
  intro w hw
  obtain ⟨i0, hi0, hz0, hz1, hz2⟩ := info_parts he.info
  obtain ⟨h2, h3⟩ := h
  have hb := hw.get tk
  have hst := run_storeCells (P := P) (b := b) (off := o) (ty' := tb) src 0 cs w h1 hb (by omega)
  have hld : (Builtin.firstCells 1 (min sl dl) (.slice a sl sc)).run P w = .ok src.toArray w := by
    cases a with
    | none =>
      cases hs : src with
      | nil => simp [Builtin.firstCells]
      | cons v r => obtain ⟨ad, h, _⟩ := hsrc w hw 0 v (by rw [hs]; rfl); cases h
    | some ad =>
      refine run_firstCells_some w 1 (min sl dl) ad sl sc src (by omega) fun j v hj => ?_
      obtain ⟨ad', h7, h8⟩ := hsrc w hw j v hj
      cases h7; exact h8
  have hr : ∀ op : Oper, op.op = .call { callee := .builtin .copy, args := [x, y].toArray, argTypes := [t, t'].toArray } → (execOp (act n e).eval op).run P w = .ok (.value (.int .i64 src.length)) { w with heap := w.heap.setIfInBounds b (.cells (cs.take (o + 0) ++ src ++ cs.drop (o + 0 + src.length)).toArray tb (0, 0)) } := by
    intro op ho
    unfold execOp; rw [ho]
    simp only [resolve, invoke, builtin, List.map_toArray, List.map_cons, List.map_nil, hx.out, hy.out, Sem.run_bind, Sem.run_pure, Result.andThen_ok]
    have hld' : (Builtin.firstCells 1 (sl.min dl) (.slice a sl sc)).run P w = .ok src.toArray w := hld
    simp [Builtin.copy_, run_underlying he.und, Builtin.lenOf, sizeOf, typeInfo, hi0, hz1, hld', hst, goInt]
    rw [h2]
  refine wpM_value rfl (hr _ rfl) ?_
  rw [actM_put]
  simp only [Nat.add_zero]
  exact k _ (hw.set tk _)

/-- append(s, x...), s having no room, something coming -/
theorem sw_append_full {d : Nat} {t el : TypeId} {nb : Nat} {x y : Operand} {z : Value} {m m' c' : Nat} {a a' : Option Addr} {cs src : List Value} {pos : String} {after : Array Edge}
    [hx : Ev n e x (.slice a m m)] [hy : Ev n e y (.slice a' m' c')] [he : Elem P t el 1 nb z] [hz : One z]
    (hcs : ∀ w, Sat w0 w Rs → ∀ j v, cs[j]? = some v → ∃ ad, a = some ad ∧ w.cell? (ad.add j) = some v) (hpl : 0 < m → ∃ b o, a = some ⟨b, o, none⟩) (hnone : m = 0 → a = none ∨ ∃ b o, a = some ⟨b, o, none⟩)
    (hsrc : ∀ w, Sat w0 w Rs → ∀ j v, src[j]? = some v → ∃ ad, a' = some ad ∧ w.cell? (ad.add j) = some v)
    (h : 0 < m' ∧ cs.length = m ∧ src.length = m' ∧ m + m' ≤ 9223372036854775807 ∧ (m + m') * nb ≤ 140737488355328)
    (k : ∀ b' r, SW P ops Q n w0 rest ((d, .slice (some ⟨b', 0, none⟩) (m + m') (m + m' + r.length)) :: e) ((b', pts b' (.cells (cs ++ src ++ r).toArray el (0, 0))) :: Rs)) :
    SW P ops Q n w0 ({ dst := some d, op := .call { callee := .builtin .append, args := [x, y].toArray, argTypes := [t, t].toArray }, type := ty, pos := pos, after := after, guard := none } :: rest) e Rs := by
  intro w hw
  obtain ⟨h2, h3, h4, h5, h6⟩ := h
  obtain ⟨i0, hi, hz0, hz1, hz2⟩ := info_parts he.info
  have hzs : z.cells.size = 1 := by rw [cells_one hz.out]; rfl
  have hl1 : src.length = m' * i0.size := by rw [hz1, Nat.mul_one]; exact h4
  have hl2 : cs.length = m * i0.size := by rw [hz1, Nat.mul_one]; exact h3
  obtain ⟨ad, rfl⟩ : ∃ ad, a' = some ad := by
    cases hs : src with
    | nil => rw [hs] at h4; simp at h4; omega
    | cons v r => obtain ⟨ad, h, _⟩ := hsrc w hw 0 v (by rw [hs]; rfl); exact ⟨ad, h⟩
  have hsrc' : ∀ j v, src[j]? = some v → w.cell? (ad.add j) = some v := fun j v hj => by
    obtain ⟨ad', h7, h8⟩ := hsrc w hw j v hj
    cases h7; exact h8
  by_cases ha : a = none
  · subst ha
    have hm : m = 0 := by
      rcases Nat.eq_zero_or_pos m with h | h
      · exact h
      · obtain ⟨b, o, h⟩ := hpl h; cases h
    subst hm
    have hc0 : cs = [] := List.eq_nil_of_length_eq_zero h3
    subst hc0
    have hr := run_append_nil (P := P) w t ty el i0 z he.und hi hz0 ad m' c' src hl1 hsrc' h2 (by omega) (by rw [hz2]; rw [Nat.zero_add] at h6; omega)
    refine wpM_value rfl (run_call_append rfl w hr) ?_
    rw [actM_put]
    have hge := grownCap_ge w m' 0 el
    have h8 := k w.heap.size (Builtin.zeroCells z.cells (grownCap w m' 0 el - m')).toList
    have e1 : 0 + m' + (Builtin.zeroCells z.cells (grownCap w m' 0 el - m')).toList.length = grownCap w m' 0 el := by rw [zeroCells_len _ _ hzs]; omega
    rw [e1, Nat.zero_add] at h8
    have h9 := (hw.draw (w.drawn + 1)).new (.cells (src.toArray ++ Builtin.zeroCells z.cells (grownCap w m' 0 el - m')) el (0, 0))
    have e2 : src.toArray ++ Builtin.zeroCells z.cells (grownCap w m' 0 el - m') = (src ++ (Builtin.zeroCells z.cells (grownCap w m' 0 el - m')).toList).toArray := by simp
    rw [e2] at h9 ⊢
    exact h8 _ h9
  · obtain ⟨b, o, rfl⟩ : ∃ b o, a = some ⟨b, o, none⟩ := by
      rcases Nat.eq_zero_or_pos m with h | h
      · rcases hnone h with h | h
        · exact absurd h ha
        · exact h
      · exact hpl h
    have holds : ∀ j v, cs[j]? = some v → w.cell? (Addr.add ⟨b, o, none⟩ j) = some v := fun j v hj => by
      obtain ⟨ad', h7, h8⟩ := hcs w hw j v hj
      cases h7; exact h8
    have hr := run_append_grow (P := P) w t ty el i0 z he.und hi hz0 ⟨b, o, none⟩ m m cs hl2 holds ad m' c' src hl1 hsrc' (by omega) (by omega) (growslice_fits (by omega) (by rw [hz2]; exact h6))
    refine wpM_value rfl (run_call_append rfl w hr) ?_
    rw [actM_put]
    have hge := grownCap_ge w (m + m') m el
    have h8 := k w.heap.size (Builtin.zeroCells z.cells (grownCap w (m + m') m el - (m + m'))).toList
    have e1 : m + m' + (Builtin.zeroCells z.cells (grownCap w (m + m') m el - (m + m'))).toList.length = grownCap w (m + m') m el := by rw [zeroCells_len _ _ hzs]; omega
    rw [e1] at h8
    have h9 := (hw.draw (w.drawn + 1)).new (.cells (cs.toArray ++ src.toArray ++ Builtin.zeroCells z.cells (grownCap w (m + m') m el - (m + m'))) el (0, 0))
    have e2 : cs.toArray ++ src.toArray ++ Builtin.zeroCells z.cells (grownCap w (m + m') m el - (m + m')) = (cs ++ src ++ (Builtin.zeroCells z.cells (grownCap w (m + m') m el - (m + m'))).toList).toArray := by simp
    rw [e2] at h9 ⊢
    exact h8 _ h9
end
end Go.Gsl

namespace Go.Gsl
set_option linter.unusedVariables false

theorem ixor_u8_0 {a : Int} (h : 0 ≤ a ∧ a ≤ 255) : ixor .u8 a 0 = a := by
  have key : ∀ m : Fin 256, ixor .u8 (m.val : Int) 0 = (m.val : Int) := by decide +kernel
  have := key ⟨a.toNat, by omega⟩
  simp only at this
  rwa [Int.toNat_of_nonneg h.1] at this
theorem ixor_u8_255 {a : Int} (h : 0 ≤ a ∧ a ≤ 255) : ixor .u8 a 255 = 255 - a := by
  have key : ∀ m : Fin 256, ixor .u8 (m.val : Int) 255 = 255 - (m.val : Int) := by decide +kernel
  have := key ⟨a.toNat, by omega⟩
  simp only at this
  rwa [Int.toNat_of_nonneg h.1] at this
theorem or_nat {x y i : Nat} (h : y < 2 ^ i) : (x * 2 ^ i) ||| y = x * 2 ^ i + y := by
  have := Nat.shiftLeft_add_eq_or_of_lt h x
  rw [Nat.shiftLeft_eq] at this
  exact this.symm
theorem ofInt_nat (n : Nat) (a : Int) (h : 0 ≤ a) (h2 : a.toNat < 2 ^ n) : (BitVec.ofInt n a).toNat = a.toNat := by
  rw [BitVec.toNat_ofInt]
  have h3 : a = (a.toNat : Int) := (Int.toNat_of_nonneg h).symm
  rw [h3]
  have : ((a.toNat : Int) % ((2 ^ n : Nat) : Int)) = ((a.toNat % 2 ^ n : Nat) : Int) := by omega
  rw [this, Int.toNat_natCast, Int.toNat_natCast, Nat.mod_eq_of_lt h2]
theorem ior_u64 {x y : Int} (hx : 0 ≤ x) (hy : 0 ≤ y ∧ y ≤ 255) (h : x * 256 + y ≤ 18446744073709551615) : ior .u64 (x * 256) y = x * 256 + y := by
  unfold ior
  show IntKind.u64.wrap (((BitVec.ofInt 64 (x * 256) ||| BitVec.ofInt 64 y).toNat : Nat) : Int) = _
  rw [BitVec.toNat_or, ofInt_nat 64 _ (by omega) (by omega), ofInt_nat 64 _ (by omega) (by omega)]
  have h1 : (x * 256).toNat = x.toNat * 2 ^ 8 := by omega
  rw [h1, or_nat (by omega)]
  rw [wrap_u64 (by omega)]
  omega
theorem ior_u32 {x y : Int} (hx : 0 ≤ x) (hy : 0 ≤ y ∧ y ≤ 255) (h : x * 256 + y ≤ 4294967295) : ior .u32 (x * 256) y = x * 256 + y := by
  unfold ior
  show IntKind.u32.wrap (((BitVec.ofInt 32 (x * 256) ||| BitVec.ofInt 32 y).toNat : Nat) : Int) = _
  rw [BitVec.toNat_or, ofInt_nat 32 _ (by omega) (by omega), ofInt_nat 32 _ (by omega) (by omega)]
  have h1 : (x * 256).toNat = x.toNat * 2 ^ 8 := by omega
  rw [h1, or_nat (by omega)]
  rw [wrap_u32 (by omega)]
  omega
theorem ior_u32_16 {x y : Int} (hx : 0 ≤ x) (hy : 0 ≤ y ∧ y ≤ 65535) (h : x * 65536 + y ≤ 4294967295) : ior .u32 (x * 65536) y = x * 65536 + y := by
  unfold ior
  show IntKind.u32.wrap (((BitVec.ofInt 32 (x * 65536) ||| BitVec.ofInt 32 y).toNat : Nat) : Int) = _
  rw [BitVec.toNat_or, ofInt_nat 32 _ (by omega) (by omega), ofInt_nat 32 _ (by omega) (by omega)]
  have h1 : (x * 65536).toNat = x.toNat * 2 ^ 16 := by omega
  rw [h1, or_nat (by omega)]
  rw [wrap_u32 (by omega)]
  omega
theorem ixor_m1 {a : Int} (h : -9223372036854775808 ≤ a ∧ a ≤ 9223372036854775807) : ixor .i64 (-1) a = -a - 1 := by
  unfold ixor
  show IntKind.i64.wrap (((BitVec.ofInt 64 (-1) ^^^ BitVec.ofInt 64 a).toNat : Nat) : Int) = _
  have h1 : BitVec.ofInt 64 (-1) ^^^ BitVec.ofInt 64 a = ~~~ BitVec.ofInt 64 a := by
    rw [show BitVec.ofInt 64 (-1) = BitVec.allOnes 64 from by decide]
    exact BitVec.allOnes_xor
  rw [h1, BitVec.toNat_not, BitVec.toNat_ofInt]
  have h2 : IntKind.i64.wrap = fun c : Int => (c + 9223372036854775808) % 18446744073709551616 - 9223372036854775808 := by
    funext c
    simp [IntKind.wrap, IntKind.bits, IntKind.signed]
    omega
  rw [h2]
  simp only
  omega

section
variable {P : Program} {ops : List Oper} {Q : Cont} {n : Nat} {w0 : World} {rest : List Oper} {e : Env} {Rs F : List Res} {ty : TypeId}
theorem sw_cpl {d : Nat} {x : Operand} {t : TypeId} {a : Int} {pos : String} {after : Array Edge} [hx : Ev n e x (.int .i64 a)] (h : -9223372036854775808 ≤ a ∧ a ≤ 9223372036854775807)
    (q : SW P ops Q n w0 rest ((d, .int .i64 (-a - 1)) :: e) Rs) : SW P ops Q n w0 ({ dst := some d, op := .unOp .xor t x, type := ty, pos := pos, after := after, guard := none } :: rest) e Rs := by
  refine sw_op (h := @RunOp.pure P n w0 e Rs _ _ _ ⟨fun o h1 _ w => ?_⟩) q
  unfold execOp; rw [h1]
  have h2 : (Op.unary .xor (.int .i64 a)).run P w = .ok (.int .i64 (ixor .i64 (-1) a)) w := by
    simp [Op.unary, Op.intBits, IntKind.signed, ixor]
  simp only [hx.out, Sem.run_bind, h2, Result.andThen_ok, Sem.run_pure, ixor_m1 h]

theorem wrap_u8_mod (c : Int) : IntKind.u8.wrap c = c % 256 := by simp [IntKind.wrap, IntKind.bits, IntKind.signed]
theorem pow256 (x : Nat) : (256 : Int) ^ x = 2 ^ (8 * x) := by rw [Int.pow_mul]; rfl
theorem sw_shrP {d : Nat} {x y : Operand} {t t' : TypeId} {k k' : IntKind} {a b : Int} {pos : String} {after : Array Edge} (i : Nat) (m : Int) [hx : Ev n e x (.int k a)] [hy : Ev n e y (.int k' b)] (h : b = i ∧ i ≤ k.bits ∧ 0 ≤ a ∧ m = 2 ^ i)
    (q : SW P ops Q n w0 rest ((d, .int k (a / m)) :: e) Rs) : SW P ops Q n w0 ({ dst := some d, op := .binOp .shr t x y t', type := ty, pos := pos, after := after, guard := none } :: rest) e Rs := by
  obtain ⟨rfl, h2, h3, rfl⟩ := h
  refine sw_shr (by omega) ?_
  rw [Int.toNat_natCast, Nat.min_eq_left h2, Int.fdiv_eq_ediv_of_nonneg _ (Int.le_of_lt (Int.pow_pos (by omega)))]
  exact q
theorem sw_shlP {d : Nat} {x y : Operand} {t t' : TypeId} {k k' : IntKind} {a b : Int} {ok : Prop} {pos : String} {after : Array Edge} (i : Nat) (m : Int) [hx : Ev n e x (.int k a)] [hy : Ev n e y (.int k' b)] [hk : InK k (a * m) ok] (h : b = i ∧ i ≤ k.bits ∧ m = 2 ^ i) (hok : ok)
    (q : SW P ops Q n w0 rest ((d, .int k (a * m)) :: e) Rs) : SW P ops Q n w0 ({ dst := some d, op := .binOp .shl t x y t', type := ty, pos := pos, after := after, guard := none } :: rest) e Rs := by
  obtain ⟨rfl, h2, rfl⟩ := h
  refine sw_shl (by omega) ?_
  rw [Int.toNat_natCast, Nat.min_eq_left h2, hk.out hok]
  exact q
/-- an operation whose number is another word for this one -/
theorem sw_as {d : Nat} {op : Op} {pos : String} {after : Array Edge} {v : Value} (v' : Value) [h : PureOp P n e op ty v] (hv : v = v')
    (q : SW P ops Q n w0 rest ((d, v') :: e) Rs) : SW P ops Q n w0 ({ dst := some d, op := op, type := ty, pos := pos, after := after, guard := none } :: rest) e Rs :=
  sw_op_as (h := RunOp.pure op ty _) hv q

/-- bytes that 'r' lets be read -/
inductive RdB (r : HProp) : Value → List Int → Prop
  | nil : RdB r (.slice none 0 0) []
  | row (b o c : Nat) (bs : List Int) (hc : bs.length ≤ c) (hr : Reads r (some ⟨b, o, none⟩) (bs.map (Value.int .u8))) : RdB r (.slice (some ⟨b, o, none⟩) bs.length c) bs
def Byt (bs : List Int) : Prop := ∀ x ∈ bs, 0 ≤ x ∧ x ≤ 255
theorem RdB.own {b : Nat} {bs : List Int} {r : List Value} {t : TypeId} {fr : Nat × Nat} : RdB (pts b (.cells (bs.map (Value.int .u8) ++ r).toArray t fr)) (.slice (some ⟨b, 0, none⟩) bs.length (bs.length + r.length)) bs :=
  .row b 0 _ bs (by omega) (reads_pts fun j v hj => by rw [Nat.zero_add, List.getElem?_append_left (List.getElem?_eq_some_iff.1 hj).1]; exact hj)
theorem RdB.own0 {b : Nat} {bs : List Int} {t : TypeId} {fr : Nat × Nat} : RdB (pts b (.cells (bs.map (Value.int .u8)).toArray t fr)) (.slice (some ⟨b, 0, none⟩) bs.length bs.length) bs :=
  .row b 0 _ bs (Nat.le_refl _) (reads_pts fun j v hj => by rw [Nat.zero_add]; exact hj)
theorem RdB.one {r : HProp} {v : Value} {bs : List Int} (h : RdB r v bs) : One v := ⟨by cases h <;> rfl⟩
end
end Go.Gsl

namespace Go.Gsl
set_option linter.unusedVariables false

section
variable {P : Program} {ops : List Oper} {Q : Cont} {n : Nat} {w0 : World} {rest : List Oper} {e : Env} {Rs F : List Res} {ty : TypeId}
theorem yielded_u {j t : Nat} [hd : DstAt ops j t] [hl : Lk e t undef] [hn : Lt t n] : yielded ops.toArray (act n e).tmps j = none := by
  have h1 : (ops.toArray[j]?).bind (·.dst) = some t := by simpa using hd.out
  unfold yielded
  rw [h1]
  simp [act, slots_getElem? n e t hn.out, hl.out, undef]
/-- an operation whose guard was passed by itself -/
theorem sw_guard_skip_u {d : Nat} {op : Op} {pos : String} {after : Array Edge} {j t : Nat} {b : Bool} [hd : DstAt ops j t] [hl : Lk e t undef] [hn : Lt t n]
    (k : SW P ops Q n w0 rest ((d, undef) :: e) Rs) : SW P ops Q n w0 ({ dst := some d, op := op, type := ty, pos := pos, after := after, guard := some (j, b) } :: rest) e Rs := by
  intro w hw
  unfold wpListIn
  rw [if_neg]
  · rw [actM_put]; exact ⟨fun _ _ => trivial, k w hw⟩
  · simp [Region.wanted, actM_tmps, yielded_u (n := n) (e := e) (ops := ops) (j := j) (t := t)]
theorem sg_skip_u {G : List Res} {fuel : Nat} {listed : Array Bool} {d : Nat} {op : Op} {pos : String} {after : Array Edge} {j t : Nat} {b : Bool} (i : Nat) (hc : Calm Q) (hi : ops[i]? = some { dst := some d, op := op, type := ty, pos := pos, after := after, guard := some (j, b) })
    (hs : Region.noSelect ops.toArray = true) (hf : Region.free .any ops.toArray listed i = true) (hr : (Region.ready .any ops.toArray listed).contains i = true) [hd : DstAt ops j t] [hl : Lk e t undef] [hn : Lt t n]
    (k : SG P ops Q n w0 G fuel (listed.setIfInBounds i true) ((d, undef) :: e) Rs) : SG P ops Q n w0 G (fuel + 1) listed e Rs := by
  refine ⟨k.1, fun w hw => ?_⟩
  have hi' : ops.toArray[i]? = some { dst := some d, op := op, type := ty, pos := pos, after := after, guard := some (j, b) } := by simpa using hi
  refine wpAnyC_first (v := undef) hi' (Region.noSelect_spec hs) (fun c a w => hc c a _ undef w) fuel listed _ w (Region.free_spec hi' hf) (by simpa using hr) (.inr ⟨?_, rfl⟩) ?_
  · simp [Region.wanted, actM_tmps, yielded_u (n := n) (e := e) (ops := ops) (j := j) (t := t)]
  · rw [actM_put]; exact k.2 w hw
/-- a call of a function value that is a plain function -/
theorem sw_callf {d : Nat} {x : Operand} {f : FuncId} {args : List Operand} {ts : Array TypeId} {pos : String} {after : Array Edge} {vs : List Value} {ks : List Nat} {rs : List HProp} {Post : List Res → Value → List Res → Prop}
    [hx : Ev n e x (.func (.func f) #[] #[])] [ha : EvL n e args vs] (hs : Spec P f vs ks rs Post) [hb : Body P f] [hsp : Split Rs ks rs F]
    (k : ∀ v Rs', Post F v Rs' → SW P ops Q n w0 rest ((d, v) :: e) Rs') :
    SW P ops Q n w0 ({ dst := some d, op := .call { callee := .value x, args := args.toArray, argTypes := ts }, type := ty, pos := pos, after := after, guard := none } :: rest) e Rs :=
  sw_callv (fs := []) (cs := []) (vs := vs) (by simpa using hs) k
/-- [m]T{..} -/
theorem runop_buildA {t et : TypeId} {m sz : Nat} {xs : List (Nat × Operand)} {vs : List (Nat × Value)} {z : Value} {cs : List Value} [hx : PartsL n e xs vs] [hz : ZeroOf P t z] [hu : Und P t (.array m et)] [hs : SizeOf P et sz] (hf : Instr.fill (fun i => some (i * sz, sz)) z.cells vs = some cs.toArray) :
    PureOp P n e (.build t xs.toArray) ty (.agg cs.toArray) :=
  ⟨fun o h1 _ w => by
    unfold execOp; rw [h1]
    have h2 : (List.map (fun x : Nat × Operand => match x with | (i, x) => (i, (act n e).eval x)) xs) = vs := by rw [← hx.out]
    simp [Instr.build, hz.out, run_und (t := t), hs.out, h2, hf]⟩
theorem sw_buildA {d : Nat} {t et : TypeId} {m sz : Nat} {xs : List (Nat × Operand)} {vs : List (Nat × Value)} {z : Value} {pos : String} {after : Array Edge} [hx : PartsL n e xs vs] [hz : ZeroOf P t z] [hu : Und P t (.array m et)] [hs : SizeOf P et sz] (cs : List Value) (hf : Instr.fill (fun i => some (i * sz, sz)) z.cells vs = some cs.toArray)
    (k : SW P ops Q n w0 rest ((d, .agg cs.toArray) :: e) Rs) : SW P ops Q n w0 ({ dst := some d, op := .build t xs.toArray, type := ty, pos := pos, after := after, guard := none } :: rest) e Rs :=
  have h1 : PureOp P n e (.build t xs.toArray) ty (.agg cs.toArray) := runop_buildA (ty := ty) hf
  sw_op (h := @RunOp.pure P n w0 e Rs _ _ _ h1) k

/-- an array's element -/
theorem runop_indexA {t et : TypeId} {x y : Operand} {b m sz : Nat} {k : IntKind} {i : Int} (j off : Nat) [hx : Ev n e x (.pointer (some ⟨b, 0, none⟩))] [hy : Ev n e y (.int k i)] [hu : Und P t (.array m et)] [hs : SizeOf P et sz] (h : i = j ∧ j < m ∧ 2 ≤ m) (ho : j * sz = off) :
    RunOp P n w0 e Rs (.indexAddr t x y) ty (.pointer (some ⟨b, off, none⟩)) := by
  subst ho
  obtain ⟨rfl, hj, hm⟩ := h
  refine @RunOp.pure P n w0 e Rs _ _ _ ⟨fun o h1 _ w => ?_⟩
  unfold execOp; rw [h1]
  simp [hx.out, hy.out, Instr.indexAt, asIntOf, run_und (t := t), hj, hs.out, Addr.add, Instr.sureAddr]
  intro h; exact h.symm
theorem sw_indexA {d : Nat} {t et : TypeId} {x y : Operand} {b m sz : Nat} {k : IntKind} {i : Int} {pos : String} {after : Array Edge} (j off : Nat) [hx : Ev n e x (.pointer (some ⟨b, 0, none⟩))] [hy : Ev n e y (.int k i)] [hu : Und P t (.array m et)] [hs : SizeOf P et sz] (h : i = j ∧ j < m ∧ 2 ≤ m) (ho : j * sz = off)
    (q : SW P ops Q n w0 rest ((d, .pointer (some ⟨b, off, none⟩)) :: e) Rs) : SW P ops Q n w0 ({ dst := some d, op := .indexAddr t x y, type := ty, pos := pos, after := after, guard := none } :: rest) e Rs :=
  sw_op (h := runop_indexA j off h ho) q

/-- a part of a variable is read -/
theorem runop_loadPart {t : TypeId} {x : Operand} {b off sz : Nat} {cs : List Value} {ty' : TypeId} {fr : Nat × Nat} (vs : List Value) [h : Ev n e x (.pointer (some ⟨b, off, none⟩))] [ha : IsAggT P t] [hs : SizeOf P t sz] [tk : Take Rs b (pts b (.cells cs.toArray ty' fr)) F] (hl : vs.length = sz) (hv : (cs.drop off).take sz = vs) :
    RunOp P n w0 e Rs (.load t x) ty (.agg vs.toArray) :=
  runop_load_agg sz hl fun w hw j v hj => by
    refine cell_of (hw.get tk) ?_
    rw [← hv, List.getElem?_take] at hj
    split at hj
    · rw [List.getElem?_drop] at hj; simpa using hj
    · cases hj
theorem sw_loadPart {d : Nat} {t : TypeId} {x : Operand} {b off sz : Nat} {cs : List Value} {ty' : TypeId} {fr : Nat × Nat} (vs : List Value) {pos : String} {after : Array Edge} [h : Ev n e x (.pointer (some ⟨b, off, none⟩))] [ha : IsAggT P t] [hs : SizeOf P t sz] [tk : Take Rs b (pts b (.cells cs.toArray ty' fr)) F] (hl : vs.length = sz) (hv : (cs.drop off).take sz = vs)
    (q : SW P ops Q n w0 rest ((d, .agg vs.toArray) :: e) Rs) : SW P ops Q n w0 ({ dst := some d, op := .load t x, type := ty, pos := pos, after := after, guard := none } :: rest) e Rs :=
  sw_op (h := runop_loadPart (cs := cs) vs hl hv) q

/-- a part of a variable is written -/
theorem sw_storePart {t : TypeId} {x y : Operand} {b off sz : Nat} {cs vs : List Value} {ty' : TypeId} {pos : String} {after : Array Edge} (cs' : List Value) [h : Ev n e x (.pointer (some ⟨b, off, none⟩))] [h2 : Ev n e y (.agg vs.toArray)] [hv : OneL vs] [hs : SizeOf P t sz] [hl : LenL vs sz]
    [ht : Take Rs b (pts b (.cells cs.toArray ty' (0, 0))) F] (ho : off + sz ≤ cs.length) (hc : cs.take off ++ vs ++ cs.drop (off + sz) = cs') (k : SW P ops Q n w0 rest e ((b, pts b (.cells cs'.toArray ty' (0, 0))) :: F)) :
    SW P ops Q n w0 ({ dst := none, op := .store t x y, type := ty, pos := pos, after := after, guard := none } :: rest) e Rs := by
  intro w hw
  have hb := hw.get ht
  have h1 := hl.out
  have h4 := run_storeCells (P := P) (b := b) (off := off) vs 0 cs w hv.out hb (by omega)
  rw [Nat.add_zero, h1, hc] at h4
  have hr : ∀ o : Oper, o.op = .store t x y → (execOp (act n e).eval o).run P w = .ok .skip { w with heap := w.heap.setIfInBounds b (.cells cs'.toArray ty' (0, 0)) } := by
    intro o ho
    unfold execOp; rw [ho]
    simp [h.out, h2.out, Instr.storeAt, Instr.sureAddr, storeVar, Value.cells, hs.out, h1, h4]
  refine wpM_skip rfl (hr _ rfl) (k _ ?_)
  exact hw.set ht _

/-! ### results in variables that are whole structs or arrays -/
theorem run_loadVarA {t b sz : Nat} {vs : List Value} {w : World} [ht : IsAggT P t] [hs : SizeOf P t sz] (hl : vs.length = sz) (hc : ∀ j v, vs[j]? = some v → w.cell? ⟨b, j, none⟩ = some v) : (loadVar t ⟨b, 0, none⟩).run P w = .ok (.agg vs.toArray) w := by
  subst hl
  have h2 := run_loadCells (P := P) (w := w) (b := b) (off := 0) vs 0 #[] fun j v hj => by rw [Nat.zero_add, Nat.zero_add]; exact hc j v hj
  simp [loadVar, ht.out, hs.out, loadCells, h2]
theorem sq_of_w {fn : Func} {R : Value → List Res → Prop} {v : Value} {x : Exit} (hx : x = .ret ∨ x = .normal) (hr : ∀ w, Sat w0 w Rs → (results fn (act n e).tmps).run P w = .ok v w) (h : ∃ Rs', R v Rs' ∧ Ent Rs Rs') : SQ (Post P fn w0 R) n w0 x e Rs := by
  obtain ⟨Rs', h1, h2⟩ := h
  intro w hw
  rcases hx with rfl | rfl
  · exact ⟨fun _ h => (by cases h), v, hr w hw, v, Rs', rfl, h1, hw.ent h2⟩
  · exact ⟨fun _ h => (by cases h), v, hr w hw, v, Rs', rfl, h1, hw.ent h2⟩
theorem sq_resA {fn : Func} {R : Value → List Res → Prop} {t b sz : Nat} {ty ty' : TypeId} {vs : List Value} {fr : Nat × Nat} {x : Exit} (hr : fn.results = #[.cell t ty]) (hx : x = .ret ∨ x = .normal) [Lk e t (.pointer (some ⟨b, 0, none⟩))] [Lt t n] [IsAggT P ty] [hs : SizeOf P ty sz] [tk : Take Rs b (pts b (.cells vs.toArray ty' fr)) F] (hl : vs.length = sz)
    (h : ∃ Rs', R (.agg vs.toArray) Rs' ∧ Ent Rs Rs') : SQ (Post P fn w0 R) n w0 x e Rs := by
  refine sq_of_w hx (fun w hw => ?_) h
  have a1 : (slots n e)[t]? = some (.pointer (some ⟨b, 0, none⟩)) := by rw [slots_getElem? n e t ‹Lt t n›.out, ‹Lk e t _›.out]
  have h3 := run_loadVarA (P := P) (t := ty) (w := w) (b := b) hl fun j v hj => cell_of (hw.get tk) (by simpa using hj)
  simp [results, hr, act, a1, asAddr, h3]
theorem sq_resAT {fn : Func} {R : Value → List Res → Prop} {t u b sz : Nat} {ty ty' : TypeId} {vs : List Value} {y : Value} {fr : Nat × Nat} {x : Exit} (hr : fn.results = #[.cell t ty, .tmp u]) (hx : x = .ret ∨ x = .normal) [Lk e t (.pointer (some ⟨b, 0, none⟩))] [Lt t n] [h2 : Lk e u y] [hn2 : Lt u n] [IsAggT P ty] [hs : SizeOf P ty sz] [tk : Take Rs b (pts b (.cells vs.toArray ty' fr)) F] (hl : vs.length = sz)
    (h : ∃ Rs', R (.tuple #[.agg vs.toArray, y]) Rs' ∧ Ent Rs Rs') : SQ (Post P fn w0 R) n w0 x e Rs := by
  refine sq_of_w hx (fun w hw => ?_) h
  have a1 : (slots n e)[t]? = some (.pointer (some ⟨b, 0, none⟩)) := by rw [slots_getElem? n e t ‹Lt t n›.out, ‹Lk e t _›.out]
  have a2 : (slots n e)[u]? = some y := by rw [slots_getElem? n e u hn2.out, h2.out]
  have h3 := run_loadVarA (P := P) (t := ty) (w := w) (b := b) hl fun j v hj => cell_of (hw.get tk) (by simpa using hj)
  simp [results, hr, act, a1, a2, asAddr, h3]
theorem sq_resAA {fn : Func} {R : Value → List Res → Prop} {t u b b2 sz sz2 : Nat} {ty ty' ty2 ty2' : TypeId} {vs us : List Value} {fr fr2 : Nat × Nat} {x : Exit} {F2 : List Res} (hr : fn.results = #[.cell t ty, .cell u ty2]) (hx : x = .ret ∨ x = .normal) [Lk e t (.pointer (some ⟨b, 0, none⟩))] [Lt t n] [h2 : Lk e u (.pointer (some ⟨b2, 0, none⟩))] [hn2 : Lt u n]
    [IsAggT P ty] [hs : SizeOf P ty sz] [tk : Take Rs b (pts b (.cells vs.toArray ty' fr)) F] [IsAggT P ty2] [hs2 : SizeOf P ty2 sz2] [tk2 : Take Rs b2 (pts b2 (.cells us.toArray ty2' fr2)) F2] (hl : vs.length = sz) (hl2 : us.length = sz2)
    (h : ∃ Rs', R (.tuple #[.agg vs.toArray, .agg us.toArray]) Rs' ∧ Ent Rs Rs') : SQ (Post P fn w0 R) n w0 x e Rs := by
  refine sq_of_w hx (fun w hw => ?_) h
  have a1 : (slots n e)[t]? = some (.pointer (some ⟨b, 0, none⟩)) := by rw [slots_getElem? n e t ‹Lt t n›.out, ‹Lk e t _›.out]
  have a2 : (slots n e)[u]? = some (.pointer (some ⟨b2, 0, none⟩)) := by rw [slots_getElem? n e u hn2.out, h2.out]
  have h3 := run_loadVarA (P := P) (t := ty) (w := w) (b := b) hl fun j v hj => cell_of (hw.get tk) (by simpa using hj)
  have h4 := run_loadVarA (P := P) (t := ty2) (w := w) (b := b2) hl2 fun j v hj => cell_of (hw.get tk2) (by simpa using hj)
  simp [results, hr, act, a1, a2, asAddr, h3, h4]
end
end Go.Gsl

namespace Go.Gsl
set_option linter.unusedVariables false
section
variable {P : Program} {ops : List Oper} {Q : Cont} {n : Nat} {w0 : World} {rest : List Oper} {e : Env} {Rs F : List Res} {ty : TypeId}
theorem runop_buildR {t : TypeId} {xs : List (Nat × Operand)} {vs : List (Nat × Value)} {z : Value} {pl : List (Nat × Nat)} (cs : List Value) [hx : PartsL n e xs vs] [hz : ZeroOf P t z] [hp : Places P t pl] (hf : Instr.fill (fun i => pl[i]?) z.cells vs = some cs.toArray) :
    RunOp P n w0 e Rs (.build t xs.toArray) ty (.agg cs.toArray) := @RunOp.pure P n w0 e Rs _ _ _ (runop_build (cs := cs) hf)
end
end Go.Gsl

namespace Go.Gsl
set_option linter.unusedVariables false
section
variable {P : Program} (w : World)
theorem fieldsOf_und {t : TypeId} {fs : Array Field} (h : P.underlying t = some (.struct fs)) : P.fieldsOf t = fs := by simp [Program.fieldsOf, h]
theorem part_one {t : TypeId} [hn : NonAgg P t] {xs : Array Value} {o : Nat} {v : Value} (h : xs[o]? = some v) : (part t xs o).run P w = .ok v w := by
  simp [part, hn.out, h]
theorem part_agg {t : TypeId} {sz : Nat} [hn : IsAggT P t] [hs : SizeOf P t sz] {xs : Array Value} {o : Nat} : (part t xs o).run P w = .ok (.agg (xs.extract o (o + sz))) w := by
  simp [part, hn.out, hs.out]
theorem part_agg' {t : TypeId} {sz : Nat} [hn : IsAggT P t] [hs : SizeOf P t sz] {xs ys : Array Value} {o : Nat} (h : xs.extract o (o + sz) = ys) : (part t xs o).run P w = .ok (.agg ys) w := by rw [part_agg, h]
theorem eqF_nil (d : Nat) (xs ys : Array Value) : (Op.eqFields d xs ys []).run P w = .ok true w := by simp [Op.eqFields]
theorem eqF_step {d : Nat} {xs ys : Array Value} {f : Field} {fs : List Field} {a b : Value} {r r' : Bool} (hnm : f.name ≠ "_") (hx : (part f.type xs f.offset).run P w = .ok a w) (hy : (part f.type ys f.offset).run P w = .ok b w) (he : (Op.equalIn d f.type a b).run P w = .ok r w)
    (hr : (Op.eqFields d xs ys fs).run P w = .ok r' w) : (Op.eqFields d xs ys (f :: fs)).run P w = .ok (r && r') w := by
  simp only [Op.eqFields, Sem.run_ite, if_pos hnm, Sem.run_bind, hx, hy, he, Result.andThen_ok]
  cases r <;> simp [hr]
theorem eqF_int {d : Nat} {xs ys : Array Value} {f : Field} {fs : List Field} {k k' : IntKind} {a b : Int} {r' : Bool} (hnm : f.name ≠ "_") [hn : NonAgg P f.type] (hu : P.underlying f.type = some (.int k')) (hx : xs[f.offset]? = some (.int k a)) (hy : ys[f.offset]? = some (.int k b))
    (hr : (Op.eqFields (d + 1) xs ys fs).run P w = .ok r' w) : (Op.eqFields (d + 1) xs ys (f :: fs)).run P w = .ok (a == b && r') w :=
  eqF_step w hnm (part_one w hx) (part_one w hy) (run_equalIn_int w d _ _ _ _ _ hu) hr
theorem eqI_nil (d : Nat) (e : TypeId) (c : Nat) (xs ys : Array Value) : (Op.eqItems d e c xs ys []).run P w = .ok true w := by simp [Op.eqItems]
theorem eqI_step {d : Nat} {e : TypeId} {c : Nat} {xs ys : Array Value} {i : Nat} {is : List Nat} {a b : Value} {r r' : Bool} (hx : (part e xs (i * c)).run P w = .ok a w) (hy : (part e ys (i * c)).run P w = .ok b w) (he : (Op.equalIn d e a b).run P w = .ok r w)
    (hr : (Op.eqItems d e c xs ys is).run P w = .ok r' w) : (Op.eqItems d e c xs ys (i :: is)).run P w = .ok (r && r') w := by
  simp only [Op.eqItems, Sem.run_bind, hx, hy, he, Result.andThen_ok]
  cases r <;> simp [hr]
end
section
variable {P : Program} {n : Nat} {e : Env} {ty t t' : TypeId} {x y : Operand}
/-- whole structs compared -/
class EqAgg (P : Program) (t : TypeId) (xs ys : List Value) (r : outParam Bool) : Prop where
  out : (∀ w, (Op.equalIn 10000 t (.agg xs.toArray) (.agg ys.toArray)).run P w = .ok r w) ∧ P.eqGuardType P.depth t = false
instance PureOp.aggEq (xs ys : List Value) (r : Bool) [hx : Ev n e x (.agg xs.toArray)] [hy : Ev n e y (.agg ys.toArray)] [h : EqAgg P t xs ys r] : PureOp P n e (.binOp .eql t x y t') ty (.bool r) :=
  ⟨fun o h1 _ w => run_eq_of h1 w (run_eqGuard_agg w _ _ _ _ _ _ h.out.2) (by rw [run_eql_struct, h.out.1, Result.andThen_ok])⟩
instance PureOp.aggNe (xs ys : List Value) (r : Bool) [hx : Ev n e x (.agg xs.toArray)] [hy : Ev n e y (.agg ys.toArray)] [h : EqAgg P t xs ys r] : PureOp P n e (.binOp .neq t x y t') ty (.bool (!r)) :=
  ⟨fun o h1 _ w => run_ne_of h1 w (run_eqGuard_agg w _ _ _ _ _ _ h.out.2) (by rw [run_neq_struct, h.out.1, Result.andThen_ok])⟩
end
end Go.Gsl

namespace Go.Gsl
set_option linter.unusedVariables false
section
variable {P : Program} {ops : List Oper} {Q : Cont} {n : Nat} {w0 : World} {rest : List Oper} {e : Env} {Rs F : List Res} {ty : TypeId}
theorem runop_buildRA {t et : TypeId} {m sz : Nat} {xs : List (Nat × Operand)} {vs : List (Nat × Value)} {z : Value} (cs : List Value) [hx : PartsL n e xs vs] [hz : ZeroOf P t z] [hu : Und P t (.array m et)] [hs : SizeOf P et sz] (hf : Instr.fill (fun i => some (i * sz, sz)) z.cells vs = some cs.toArray) :
    RunOp P n w0 e Rs (.build t xs.toArray) ty (.agg cs.toArray) := @RunOp.pure P n w0 e Rs _ _ _ (runop_buildA (cs := cs) hf)
theorem runop_quo_nn {x y : Operand} {a b : Int} {t t' : TypeId} [hx : Ev n e x (.int .i64 a)] [hy : Ev n e y (.int .i64 b)] (h : 0 ≤ a ∧ 0 < b ∧ a ≤ 9223372036854775807) : RunOp P n w0 e Rs (.binOp .quo t x y t') ty (.int .i64 (a / b)) := by
  have h1 : (IntKind.i64.wrap (a.tdiv b)) = a / b := by
    have h2 : a / b ≤ a := Int.ediv_le_self _ h.1
    have h3 : 0 ≤ a / b := Int.ediv_nonneg h.1 (by omega)
    rw [Int.tdiv_eq_ediv_of_nonneg h.1, IntWalk.i64_in _ (by omega)]
  rw [← h1]
  exact runop_quo (by omega)
theorem runop_shl {x y : Operand} {t t' : TypeId} {k k' : IntKind} {a b : Int} [hx : Ev n e x (.int k a)] [hy : Ev n e y (.int k' b)] (hb : 0 ≤ b) : RunOp P n w0 e Rs (.binOp .shl t x y t') ty (.int k (k.wrap (a * 2 ^ min b.toNat k.bits))) :=
  ⟨fun o h1 _ w _ => run_shift h1 (.inl rfl) w (by simp [Op.shift, show ¬ b < 0 by omega])⟩
theorem runop_index {t et : TypeId} {x y : Operand} {b off m c : Nat} {k : IntKind} {i : Int} (j : Nat) [hx : Ev n e x (.slice (some ⟨b, off, none⟩) m c)] [hy : Ev n e y (.int k i)] [hu : Und P t (.slice et)] [hs : SizeOf P et 1] (h : i = j ∧ j < m) :
    RunOp P n w0 e Rs (.indexAddr t x y) ty (.pointer (some ⟨b, off + j, none⟩)) := by
  have h1 : PureOp P n e (.indexAddr t x y) ty (.pointer (some ⟨b, off + i.toNat * 1, none⟩)) := pure_index (by omega)
  rw [show off + i.toNat * 1 = off + j by omega] at h1
  exact @RunOp.pure P n w0 e Rs _ _ _ h1
end
end Go.Gsl

namespace Go.Gsl
set_option linter.unusedVariables false
section
variable {P : Program} {ops : List Oper} {Q : Cont} {n : Nat} {w0 : World} {rest : List Oper} {e : Env} {Rs F : List Res} {ty : TypeId}
theorem zeroCells_rep (z : Value) (hz : z.oneCell' = true) (m : Nat) : Builtin.zeroCells z.cells m = (List.replicate m z).toArray := by
  rw [cells_one hz]
  apply Array.ext_getElem?
  intro j
  unfold Builtin.zeroCells
  by_cases hj : j < m <;> simp [hj, Nat.mod_one]
/-- zeros come behind a row of one's own -/
theorem sw_append_make {d : Nat} {t tx el : TypeId} {nb : Nat} {x y : Operand} {z : Value} {b m c : Nat} {i : Int} {kx : IntKind} {cs : List Value} {pos : String} {after : Array Edge} (m' : Nat)
    [hx : Ev n e x (.slice (some ⟨b, 0, none⟩) m c)] [hy : Ev n e y (.int .i64 i)] [he : Elem P t el 1 nb z] [hu : Und P tx (.int kx)] [hz : One z] [tk : Take Rs b (pts b (.cells cs.toArray el (0, 0))) F]
    (h : i = m' ∧ 0 < m' ∧ m ≤ c ∧ cs.length = c ∧ m + m' ≤ 9223372036854775807 ∧ (m + m') * nb ≤ 140737488355328)
    (k : ∀ b' r, SW P ops Q n w0 rest ((d, .slice (some ⟨b', 0, none⟩) (m + m') (m + m' + r.length)) :: e) ((b', pts b' (.cells (cs.take m ++ List.replicate m' z ++ r).toArray el (0, 0))) :: F)) :
    SW P ops Q n w0 ({ dst := some d, op := .call { callee := .builtin .append, args := [x, y].toArray, argTypes := [t, tx].toArray }, type := ty, pos := pos, after := after, guard := none } :: rest) e Rs := by
  intro w hw
  obtain ⟨rfl, hp, h2, h3, h5, h6⟩ := h
  obtain ⟨i0, hi, hz0, hz1, hz2⟩ := info_parts he.info
  have hb := hw.get tk
  have hux : P.underlying tx = some (.int kx) := hu.out
  have hi64 : IntKind.i64.wrap (m' : Int) = m' := IntWalk.i64_in _ (by omega)
  have hn0 : ¬ ((m' : Int) < 0) := by omega
  have hne : ¬ m' = 0 := by omega
  have hnb : m' * nb ≤ 140737488355328 := by
    have : m' * nb ≤ (m + m') * nb := Nat.mul_le_mul_right _ (by omega)
    omega
  have hbig : ¬ (281474976710656 < (m' : Int) * (i0.bytes : Int)) := by
    rw [hz2]
    have : ((m' * nb : Nat) : Int) ≤ 140737488355328 := by omega
    rw [Int.natCast_mul] at this
    omega
  have hzr := zeroCells_rep z hz.out
  by_cases hroom : m + m' ≤ c
  · have hst := run_storeCells (P := P) (b := b) (off := m) (ty' := el) (List.replicate m' z) 0 cs w (fun v hv => by rw [List.eq_of_mem_replicate hv]; exact hz.out) hb (by rw [List.length_replicate]; omega)
    rw [List.length_replicate, Nat.add_zero] at hst
    have hr : (Builtin.append_ #[t, tx] ty #[.slice (some ⟨b, 0, none⟩) m c, .int .i64 (m' : Int)]).run P w = .ok (.slice (some ⟨b, 0, none⟩) (m + m') c) { w with heap := w.heap.setIfInBounds b (.cells (cs.take m ++ List.replicate m' z ++ cs.drop (m + m')).toArray el (0, 0)) } := by
      simp [Builtin.append_, run_underlying he.und, run_underlying hux, sizeOf, typeInfo, zeroValue, hi, hz0, hz1, asInt, asIntOf, hi64, hn0, hne, hbig, hroom, hzr, Addr.add_lit, hst]
    refine wpM_value rfl (run_call_append rfl w hr) ?_
    rw [actM_put]
    have h8 := k b (cs.drop (m + m'))
    have e1 : m + m' + (cs.drop (m + m')).length = c := by rw [List.length_drop]; omega
    rw [e1] at h8
    exact h8 _ (hw.set tk _)
  · have hlo : (cs.take m).length = m * i0.size := by rw [hz1, Nat.mul_one, List.length_take]; omega
    have holds : ∀ j v, (cs.take m)[j]? = some v → w.drew.cell? (Addr.add ⟨b, 0, none⟩ j) = some v := fun j v hj => by
      have : w.cell? (Addr.add ⟨b, 0, none⟩ j) = some v := by
        refine cell_row hb ?_
        rw [Nat.zero_add]
        rw [List.getElem?_take] at hj
        split at hj
        · exact hj
        · cases hj
      simpa using this
    have hfo := run_firstCells_some (P := P) w.drew i0.size m ⟨b, 0, none⟩ m c (cs.take m) hlo holds
    have h63' : ¬ (9223372036854775807 < ((m : Int) + (m' : Int))) := by omega
    have hg := growslice_fits (need := m + m') (old := c) (bytes := i0.bytes) (by omega) (by rw [hz2]; exact h6)
    have h48' : ¬ (281474976710656 < Builtin.nextslicecap (m + m') c * i0.bytes) := by omega
    have hr : (Builtin.append_ #[t, tx] ty #[.slice (some ⟨b, 0, none⟩) m c, .int .i64 (m' : Int)]).run P w =
        .ok (.slice (some ⟨w.heap.size, 0, none⟩) (m + m') (grownCap w (m + m') c el)) (w.drew.alloc (.cells ((cs.take m).toArray ++ (List.replicate m' z).toArray ++ Builtin.zeroCells z.cells (grownCap w (m + m') c el - (m + m'))) el)) := by
      rw [hz1] at hfo
      simp [Builtin.append_, run_underlying he.und, run_underlying hux, sizeOf, typeInfo, zeroValue, hi, hz0, hz1, asInt, asIntOf, hi64, hn0, hne, hbig, hroom, h63', h48', Question.forced, hfo, newRow, grownCap, hzr]
    refine wpM_value rfl (run_call_append rfl w hr) ?_
    rw [actM_put]
    have hzs : z.cells.size = 1 := by rw [cells_one hz.out]; rfl
    have hge := grownCap_ge w (m + m') c el
    have h8 := k w.heap.size (Builtin.zeroCells z.cells (grownCap w (m + m') c el - (m + m'))).toList
    have e1 : m + m' + (Builtin.zeroCells z.cells (grownCap w (m + m') c el - (m + m'))).toList.length = grownCap w (m + m') c el := by rw [zeroCells_len _ _ hzs]; omega
    rw [e1] at h8
    have h9 := (((hw.draw (w.drawn + 1)).new (.cells ((cs.take m).toArray ++ (List.replicate m' z).toArray ++ Builtin.zeroCells z.cells (grownCap w (m + m') c el - (m + m'))) el (0, 0))).ent (Ent.cons _ (tk.ent.trans (Ent.drop _ _))))
    have e2 : (cs.take m).toArray ++ (List.replicate m' z).toArray ++ Builtin.zeroCells z.cells (grownCap w (m + m') c el - (m + m')) = (cs.take m ++ List.replicate m' z ++ (Builtin.zeroCells z.cells (grownCap w (m + m') c el - (m + m'))).toList).toArray := by simp
    rw [e2] at h9 ⊢
    exact h8 _ h9
/-- []byte(s), with what its capacity is at least -/
theorem sw_strBytesC {d : Nat} {s u el : TypeId} {x : Operand} (ns : List Int) {pos : String} {after : Array Edge} [hx : Ev n e x (.string (strB ns))] [hs : Und P s .string] [hu : Und P u (.slice el)] [he : Und P el (.int .u8)]
    (hb : ∀ x ∈ ns, 0 ≤ x ∧ x ≤ 255)
    (k : ∀ b c r fr, ns.length ≤ c → SW P ops Q n w0 rest ((d, .slice (some ⟨b, 0, none⟩) ns.length c) :: e) ((b, pts b (.cells (ns.map (Value.int .u8) ++ r).toArray el fr)) :: Rs)) :
    SW P ops Q n w0 ({ dst := some d, op := .convert s u x, type := ty, pos := pos, after := after, guard := none } :: rest) e Rs := by
  intro w hw
  obtain ⟨r, hr⟩ := bytesCells_strB w el ns hb
  have h1 : ∀ o : Oper, o.op = .convert s u x → (execOp (act n e).eval o).run P w = .ok (.value (.slice (some ⟨w.heap.size, 0, none⟩) ns.length (grownCap w (strB ns).size 0 el))) (Lib.bytesWorld w el (strB ns)) := by
    intro o ho
    unfold execOp; rw [ho]
    simp only [hx.out, Sem.run_bind, Lib.run_convert_string_bytes w s u el (strB ns) hs.out hu.out he.out, strB_size]
    simp
  refine wpM_value rfl (h1 _ rfl) ?_
  rw [actM_put]
  have h2 := (hw.draw (w.drawn + 1)).new (.cells (Lib.bytesCells w el (strB ns)) el ((Lib.bytesCells w el (strB ns)).size, (Lib.bytesCells w el (strB ns)).size + 1))
  rw [bytesWorld_eq]
  rw [hr] at h2 ⊢
  have hge := grownCap_ge w (strB ns).size 0 el
  exact k w.heap.size _ r _ (by rw [← strB_size ns]; exact hge) _ h2
end
end Go.Gsl
