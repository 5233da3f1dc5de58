/- Strings to bytes. -/
import Derived.Test.YtbmdaiopnnmamaaGsl12
import Derived.Lib.ConvBytes
namespace Go.Gsl
set_option linter.unusedVariables false

theorem modify_push {α : Type} (a : Array α) (x : α) (f : α → α) : (a.push x).modify a.size f = a.push (f x) := by
  apply Array.ext
  · simp
  · intro i h1 h2
    rw [Array.getElem_modify]
    split
    · rename_i e; subst e; simp
    · have : i < a.size := by simp at h2; omega
      simp [Array.getElem_push, this]

theorem bytesWorld_eq (w : World) (e : TypeId) (s : ByteArray) : Lib.bytesWorld w e s = { w with drawn := w.drawn + 1 }.alloc (.cells (Lib.bytesCells w e s) e ((Lib.bytesCells w e s).size, (Lib.bytesCells w e s).size + 1)) := by
  unfold Lib.bytesWorld World.freeze
  simp [World.alloc, World.drew, -World.alloc_eq, -World.drew_eq]
  rw [modify_push]
  simp

theorem strB_size (ns : List Int) : (strB ns).size = ns.length := by
  show (strB ns).data.toList.length = _
  unfold strB
  rw [strB_data]
  simp
theorem bytesCells_strB (w : World) (e : TypeId) (ns : List Int) (hb : ∀ x ∈ ns, 0 ≤ x ∧ x ≤ 255) : ∃ r : List Value, Lib.bytesCells w e (strB ns) = (ns.map (Value.int .u8) ++ r).toArray := by
  refine ⟨List.replicate (grownCap w (strB ns).size 0 e - (strB ns).size) (.int .u8 0), ?_⟩
  unfold Lib.bytesCells
  apply Array.ext'
  simp
  unfold strB
  rw [strB_data]
  simp
  intro x hx
  have := hb x hx
  omega

section
variable {P : Program} {ops : List Oper} {Q : Cont} {n : Nat} {w0 : World} {rest : List Oper} {e : Env} {Rs F : List Res} {ty : TypeId}
/-- []byte(s) -/
theorem sw_strBytes {d : Nat} {s u el : TypeId} {x : Operand} (ns : List Int) {pos : String} {after : Array Edge} [hx : Ev n e x (.string (strB ns))] [hs : Und P s .string] [hu : Und P u (.slice el)] [he : Und P el (.int .u8)]
    (hb : ∀ x ∈ ns, 0 ≤ x ∧ x ≤ 255)
    (k : ∀ b c r fr, SW P ops Q n w0 rest ((d, .slice (some ⟨b, 0, none⟩) ns.length c) :: e) ((b, pts b (.cells (ns.map (Value.int .u8) ++ r).toArray el fr)) :: Rs)) :
    SW P ops Q n w0 ({ dst := some d, op := .convert s u x, type := ty, pos := pos, after := after, guard := none } :: rest) e Rs := by
  intro w hw
  obtain ⟨r, hr⟩ := bytesCells_strB w el ns hb
  have h1 : ∀ o : Oper, o.op = .convert s u x → (execOp (act n e).eval o).run P w = .ok (.value (.slice (some ⟨w.heap.size, 0, none⟩) ns.length (grownCap w (strB ns).size 0 el))) (Lib.bytesWorld w el (strB ns)) := by
    intro o ho
    unfold execOp; rw [ho]
    simp only [hx.out, Sem.run_bind, Lib.run_convert_string_bytes w s u el (strB ns) hs.out hu.out he.out, strB_size]
    simp
  refine wpM_value rfl (h1 _ rfl) ?_
  rw [actM_put]
  have h2 := (hw.draw (w.drawn + 1)).new (.cells (Lib.bytesCells w el (strB ns)) el ((Lib.bytesCells w el (strB ns)).size, (Lib.bytesCells w el (strB ns)).size + 1))
  rw [bytesWorld_eq]
  rw [hr] at h2 ⊢
  exact k w.heap.size _ r _ _ h2
theorem runop_loadAt {t : TypeId} {x : Operand} {b j : Nat} {cs : List Value} {t' : TypeId} {fr : Nat × Nat} (v : Value) [hx : Ev n e x (.pointer (some ⟨b, j, none⟩))] [hn : NonAgg P t] [tk : Take Rs b (pts b (.cells cs.toArray t' fr)) F] (hv : cs[j]? = some v) : RunOp P n w0 e Rs (.load t x) ty v :=
  runop_load (a := ⟨b, j, none⟩) fun w hw => cell_of (hw.get tk) (by simpa using hv)
end

/-! ### rows by functions -/
def cellsOf (f : Nat → Value) (n : Nat) : List Value := (List.range n).map f
theorem cellsOf_len (f : Nat → Value) (n : Nat) : (cellsOf f n).length = n := by unfold cellsOf; simp
theorem cellsOf_get {f : Nat → Value} {n i : Nat} {r : List Value} (h : i < n) : (cellsOf f n ++ r)[i]? = some (f i) := by
  rw [List.getElem?_append_left (by rw [cellsOf_len]; exact h)]
  unfold cellsOf
  rw [List.getElem?_map, List.getElem?_range h]; rfl
theorem cellsOf_congr {f g : Nat → Value} {n : Nat} (h : ∀ j, j < n → f j = g j) : cellsOf f n = cellsOf g n := by
  unfold cellsOf
  exact List.map_congr_left fun j hj => h j (List.mem_range.1 hj)
theorem cellsOf_set {f : Nat → Value} {n i : Nat} {v : Value} {r : List Value} (h : i < n) : (cellsOf f n ++ r).set i v = cellsOf (fun j => if j = i then v else f j) n ++ r := by
  rw [List.set_append_left _ _ (by rw [cellsOf_len]; exact h)]
  congr 1
  refine List.ext_getElem? fun j => ?_
  unfold cellsOf
  rw [List.getElem?_set, List.length_map, List.length_range]
  by_cases hj : j < n
  · rw [List.getElem?_map, List.getElem?_map, List.getElem?_range hj]
    by_cases he : i = j
    · subst he; simp [h]
    · rw [if_neg he]; simp [Ne.symm he]
  · rw [List.getElem?_map, List.getElem?_map, List.getElem?_eq_none (by simp; omega), if_neg (by omega)]; rfl
theorem step_set {n i : Nat} {A B : Nat → Value} {r : List Value} (h : i < n) : (cellsOf (fun j => if j < i then A j else B j) n ++ r).set i (A i) = cellsOf (fun j => if j < i + 1 then A j else B j) n ++ r := by
  rw [cellsOf_set h]
  congr 1
  refine cellsOf_congr fun j _ => ?_
  by_cases he : j = i
  · subst he; rw [if_pos rfl, if_pos (by omega)]
  · rw [if_neg he]
    by_cases hl : j < i
    · rw [if_pos hl, if_pos (by omega)]
    · rw [if_neg hl, if_neg (by omega)]
theorem step_keep {n i : Nat} {A B : Nat → Value} (h : A i = B i) : cellsOf (fun j => if j < i then A j else B j) n = cellsOf (fun j => if j < i + 1 then A j else B j) n := by
  refine cellsOf_congr fun j _ => ?_
  by_cases he : j = i
  · subst he; rw [if_neg (by omega), if_pos (by omega), h]
  · by_cases hl : j < i
    · rw [if_pos hl, if_pos (by omega)]
    · rw [if_neg hl, if_neg (by omega)]
theorem step_zero {n : Nat} {A B : Nat → Value} : cellsOf (fun j => if j < 0 then A j else B j) n = cellsOf B n := cellsOf_congr fun j _ => by rw [if_neg (by omega)]
theorem step_all {n : Nat} {A B : Nat → Value} : cellsOf (fun j => if j < n then A j else B j) n = cellsOf A n := cellsOf_congr fun j h => by rw [if_pos h]
theorem row_all {n : Nat} {A B : Nat → Value} {r : List Value} {t : TypeId} : Obj.cells (cellsOf (fun j => if j < n then A j else B j) n ++ r).toArray t (0, 0) = Obj.cells (cellsOf A n ++ r).toArray t (0, 0) := by rw [step_all]
theorem row_keep {n i : Nat} {A B : Nat → Value} {r : List Value} {t : TypeId} (h : A i = B i) : Obj.cells (cellsOf (fun j => if j < i then A j else B j) n ++ r).toArray t (0, 0) = Obj.cells (cellsOf (fun j => if j < i + 1 then A j else B j) n ++ r).toArray t (0, 0) := by rw [step_keep h]
theorem row_zero {n : Nat} {A B : Nat → Value} {r : List Value} {t : TypeId} : Obj.cells (cellsOf (fun j => if j < 0 then A j else B j) n ++ r).toArray t (0, 0) = Obj.cells (cellsOf B n ++ r).toArray t (0, 0) := by rw [step_zero]
theorem row_congr {n : Nat} {A B : Nat → Value} {r : List Value} {t : TypeId} (h : ∀ j, j < n → A j = B j) : Obj.cells (cellsOf A n ++ r).toArray t (0, 0) = Obj.cells (cellsOf B n ++ r).toArray t (0, 0) := by rw [cellsOf_congr h]
end Go.Gsl
