/- Buffers that may be nil: append, len. -/
import Derived.Test.YtemediifhpgdgaaGreatGC
import Derived.Test.YtemediifhpgdgaaGreatGE
import Derived.Lib.AppendZeros
namespace Go.Gsl
set_option linter.unusedVariables false
open Go.Proofs
/-- a resource that may be there is taken -/
class TakeO {α : Type} (Rs : List Res) (g : α → Res) (o : Option α) (F : outParam (List Res)) : Prop where
  ent : Ent Rs (oR g F o)
  back : Ent (oR g F o) Rs
instance TakeO.here {α : Type} (g : α → Res) (o : Option α) (F : List Res) : TakeO (oR g F o) g o F := ⟨Ent.refl _, Ent.refl _⟩
instance (priority := 50) TakeO.there {α : Type} (q : Res) (Rs : List Res) (g : α → Res) (o : Option α) (F : List Res) [h : TakeO Rs g o F] : TakeO (q :: Rs) g o (q :: F) :=
  ⟨(Ent.cons q h.ent).trans (oR.swap' q o), (oR.swap q o).trans (Ent.cons q h.back)⟩
theorem oR.comm {α β : Type} (g : α → Res) (g' : β → Res) (o : Option α) (o' : Option β) (F : List Res) : Ent (oR g (oR g' F o') o) (oR g' (oR g F o) o') := by
  cases o with
  | none => exact Ent.refl _
  | some a => exact (oR.swap' (g a) o')
instance (priority := 40) TakeO.oR {α β : Type} (g' : β → Res) (o' : Option β) (Rs : List Res) (g : α → Res) (o : Option α) (F : List Res) [h : TakeO Rs g o F] : TakeO (oR g' Rs o') g o (oR g' F o') :=
  ⟨(oR.ent h.ent o').trans (oR.comm g' g o' o F), (oR.comm g g' o o' F).trans (oR.ent h.back o')⟩

theorem Ent.oR {α : Type} {Rs F Rs' : List Res} {g : α → Res} {o : Option α} [t : TakeO Rs g o F] (h : Ent F Rs') : Ent Rs (oR g Rs' o) := t.ent.trans (oR.ent h o)
def vG (k : IntKind) (el : TypeId) (xs : List Int) (x : Nat × List Value) : Res := (x.1, pts x.1 (.cells (xs.map (Value.int k) ++ x.2).toArray el (0, 0)))
theorem vG_some (k : IntKind) (el : TypeId) (xs : List Int) (b : Nat) (t : List Value) (F : List Res) : oR (vG k el xs) F (some (b, t)) = (b, pts b (.cells (xs.map (Value.int k) ++ t).toArray el (0, 0))) :: F := rfl
theorem vG_none (k : IntKind) (el : TypeId) (xs : List Int) (F : List Res) : oR (vG k el xs) F none = F := rfl
instance (priority := 30) TakeO.of (Rs : List Res) (k : IntKind) (el : TypeId) (xs : List Int) (b : Nat) (t : List Value) (F : List Res) [h : Take Rs b (pts b (.cells (xs.map (Value.int k) ++ t).toArray el (0, 0))) F] : TakeO Rs (vG k el xs) (some (b, t)) F := ⟨h.ent, h.back⟩
instance (n : Nat) (o : Option (Nat × List Value)) : One (bufV n o) := ⟨by cases o <;> rfl⟩
/-- a row whose elements have several cells: nil, or a buffer of its own -/
def nV (m : Nat) : Option (Nat × Nat × List Value) → Value
  | none => .slice none 0 0
  | some (b, c, _) => .slice (some ⟨b, 0, none⟩) m c
def nG (el : TypeId) (cells : List Value) (x : Nat × Nat × List Value) : Res := (x.1, pts x.1 (.cells (cells ++ x.2.2).toArray el (0, 0)))
instance (n : Nat) (o : Option (Nat × Nat × List Value)) : One (nV n o) := ⟨by cases o <;> rfl⟩
def NOk (sz : Nat) (cells : List Value) (m : Nat) (o : Option (Nat × Nat × List Value)) : Prop := cells.length = m * sz ∧ (o = none → cells = [] ∧ m = 0) ∧ ∀ b c t, o = some (b, c, t) → m ≤ c ∧ (cells ++ t).length = c * sz
theorem nG_some (el : TypeId) (cells : List Value) (b c : Nat) (t : List Value) (F : List Res) : oR (nG el cells) F (some (b, c, t)) = (b, pts b (.cells (cells ++ t).toArray el (0, 0))) :: F := rfl
theorem nG_none (el : TypeId) (cells : List Value) (F : List Res) : oR (nG el cells) F none = F := rfl
instance (priority := 30) TakeO.ofN (Rs : List Res) (el : TypeId) (cells : List Value) (b c : Nat) (t : List Value) (F : List Res) [h : Take Rs b (pts b (.cells (cells ++ t).toArray el (0, 0))) F] : TakeO Rs (nG el cells) (some (b, c, t)) F := ⟨h.ent, h.back⟩
section
variable {P : Program} {ops : List Oper} {Q : Cont} {n : Nat} {w0 : World} {rest : List Oper} {e : Env} {Rs F : List Res} {ty : TypeId}
/-- append(s, ys...), s being nil or a row of one's own -/
theorem sw_appendV {d : Nat} {t el : TypeId} {nb : Nat} {x y : Operand} {z : Value} {kd : IntKind} {a : Option Addr} {m' c' : Nat} {pos : String} {after : Array Edge} (xs ys : List Int) (o : Option (Nat × List Value)) (ho : o = none → xs = [])
    [hx : Ev n e x (bufV xs.length o)] [hy : Ev n e y (.slice a m' c')] [he : Elem P t el 1 nb z] [hz : One z] [tk : TakeO Rs (vG kd el xs) o F]
    (hsrc : ∀ w, Sat w0 w Rs → ∀ j v, (ys.map (Value.int kd))[j]? = some v → ∃ ad, a = some ad ∧ w.cell? (ad.add j) = some v)
    (h : ys.length = m' ∧ xs.length + ys.length ≤ 9223372036854775807 ∧ (xs.length + ys.length) * nb ≤ 140737488355328)
    (k : ∀ o', (o' = none ↔ o = none ∧ ys = []) → SW P ops Q n w0 rest ((d, bufV (xs ++ ys).length o') :: e) (oR (vG kd el (xs ++ ys)) F o')) :
    SW P ops Q n w0 ({ dst := some d, op := .call { callee := .builtin .append, args := [x, y].toArray, argTypes := [t, t].toArray }, type := ty, pos := pos, after := after, guard := none } :: rest) e Rs := by
  obtain ⟨h1, h2, h3⟩ := h
  subst h1
  cases o with
  | none =>
    have hx0 := ho rfl
    subst hx0
    have hxn : Ev n e x (.slice none 0 0) := hx
    cases ys with
    | nil =>
      have hy0 : Ev n e y (.slice a 0 c') := hy
      exact sw_append_00 (a := a) (c' := c') (el := el) (fun w hw => k none ⟨fun _ => ⟨rfl, rfl⟩, fun _ => rfl⟩ w (hw.ent tk.ent))
    | cons y0 ys =>
      refine sw_append_nil (src := (y0 :: ys).map (Value.int kd)) (hy := hy) (el := el) hsrc ⟨by simp, by rw [List.length_map], by simp at h2 ⊢; omega, by simp only [List.length_nil, Nat.zero_add] at h3; omega⟩ fun b' r => ?_
      have := k (some (b', r)) (by simp)
      refine sw_ent (Ent.cons _ tk.ent) ?_
      exact this
  | some bt =>
    obtain ⟨b, r0⟩ := bt
    have hxs : Ev n e x (.slice (some ⟨b, 0, none⟩) xs.length (xs.length + r0.length)) := hx
    have tk' : Take Rs b (pts b (.cells (xs.map (Value.int kd) ++ r0).toArray el (0, 0))) F := ⟨tk.ent, tk.back⟩
    refine sw_append (src := ys.map (Value.int kd)) (hx := hxs) (el := el) (tk := tk') hsrc (one_ints _ _) ⟨by omega, by rw [List.length_append, List.length_map], by rw [List.length_map], h2, h3⟩ fun b' r => ?_
    rw [List.take_left' (by rw [List.length_map]), ← List.map_append, ← List.length_append]
    exact k (some (b', r)) (by simp)
theorem sw_appendV1 {d b7 : Nat} {t el t' : TypeId} {fr : Nat × Nat} {nb : Nat} {x y : Operand} {z : Value} {kd : IntKind} {c' : Nat} {pos : String} {after : Array Edge} {F2 : List Res} (xs : List Int) (y0 : Int) (o : Option (Nat × List Value)) (ho : o = none → xs = [])
    [hx : Ev n e x (bufV xs.length o)] [hy : Ev n e y (.slice (some ⟨b7, 0, none⟩) 1 c')] [he : Elem P t el 1 nb z] [hz : One z] [tk : TakeO Rs (vG kd el xs) o F] [tk2 : Take Rs b7 (pts b7 (.cells [Value.int kd y0].toArray t' fr)) F2]
    (h : xs.length + 1 ≤ 9223372036854775807 ∧ (xs.length + 1) * nb ≤ 140737488355328)
    (k : ∀ o', o' ≠ none → SW P ops Q n w0 rest ((d, bufV (xs ++ [y0]).length o') :: e) (oR (vG kd el (xs ++ [y0])) F o')) :
    SW P ops Q n w0 ({ dst := some d, op := .call { callee := .builtin .append, args := [x, y].toArray, argTypes := [t, t].toArray }, type := ty, pos := pos, after := after, guard := none } :: rest) e Rs := by
  refine sw_appendV (kd := kd) (hx := hx) (hy := hy) xs [y0] o ho src_pts0 ⟨rfl, h.1, h.2⟩ fun o' ho' => k o' fun h => ?_
  have := (ho'.1 h).2
  cases this
/-- s[:h] -/
theorem runop_cutV {t el : TypeId} {nb : Nat} {x y : Operand} {b : Nat} {r : List Value} {kd kh : IntKind} {i : Int} {z : Value} (xs : List Int) (K : Nat) [hx : Ev n e x (bufV xs.length (some (b, r)))] [hy : Ev n e y (.int kh i)] [he : Elem P t el 1 nb z] (h : i = K ∧ K ≤ xs.length) :
    RunOp P n w0 e Rs (.slice t x none (some y) none) ty (bufV (xs.take K).length (some (b, (xs.drop K).map (Value.int kd) ++ r))) := by
  have hx' : Ev n e x (.slice (some ⟨b, 0, none⟩) xs.length (xs.length + r.length)) := hx
  have h1 := runop_slice (P := P) (n := n) (w0 := w0) (e := e) (Rs := Rs) (ty := ty) (t := t) (x := x) (lo := none) (hi := some y) (mx := none) 0 K (xs.length + r.length) 0 (hx := hx') (by omega) ⟨rfl, h.1, rfl, by split <;> omega⟩
  have h2 : (bufV (xs.take K).length (some (b, (xs.drop K).map (Value.int kd) ++ r))) = Value.slice (some ⟨b, 0, none⟩) (K - 0) (xs.length + r.length - 0) := by
    have : (xs.take K).length = K := by rw [List.length_take]; omega
    simp only [bufV, List.length_append, List.length_map, List.length_drop, this]
    congr 1
    omega
  rw [h2]
  exact h1
def cutO (kd : IntKind) (xs : List Int) (K : Nat) (o : Option (Nat × List Value)) : Option (Nat × List Value) := o.map fun x => (x.1, (xs.drop K).map (Value.int kd) ++ x.2)
theorem runop_cutVO {t el : TypeId} {nb : Nat} {x y : Operand} {kd kh : IntKind} {i : Int} {z : Value} (xs : List Int) (K : Nat) (o : Option (Nat × List Value)) (ho : o = none → xs = []) [hx : Ev n e x (bufV xs.length o)] [hy : Ev n e y (.int kh i)] [he : Elem P t el 1 nb z] (h : i = K ∧ K ≤ xs.length) :
    RunOp P n w0 e Rs (.slice t x none (some y) none) ty (bufV (xs.take K).length (cutO kd xs K o)) := by
  cases o with
  | none =>
    have hx' : Ev n e x (.slice none 0 0) := hx
    obtain ⟨h1, h2⟩ := h
    rw [ho rfl] at h2
    simp only [List.length_nil] at h2
    obtain rfl : K = 0 := by omega
    have hi0 : i = 0 := by omega
    obtain ⟨i0, hi1, hz0, hz1, hz2⟩ := info_parts he.info
    refine ⟨fun op ho' _ w _ => ?_⟩
    unfold execOp; rw [ho']
    have h4 := (Bounds.hi1 0 0 kh i).out (by omega) P w
    have hy' : (act n e).eval y = Value.int kh i := hy.out
    subst hi0
    show _ = Result.ok (Next.value (Value.slice none 0 0)) w
    simp [Instr.sliceAt, Instr.slice, run_underlying he.und, hx'.out, hy', h4, sizeOf, typeInfo, hi1]
  | some bt =>
    obtain ⟨b, r⟩ := bt
    exact runop_cutV xs K h
theorem oR_cut (k : IntKind) (el : TypeId) (xs : List Int) (K : Nat) (o : Option (Nat × List Value)) (F : List Res) : oR (vG k el xs) F o = oR (vG k el (xs.take K)) F (cutO k xs K o) := by
  cases o with
  | none => rfl
  | some bt =>
    obtain ⟨b, r⟩ := bt
    show vG k el xs (b, r) :: F = vG k el (xs.take K) (b, _) :: F
    congr 1
    unfold vG
    simp only
    rw [← List.append_assoc, ← List.map_append, List.take_append_drop]
theorem vG_cut (k : IntKind) (el : TypeId) (xs : List Int) (K b : Nat) (r : List Value) : vG k el xs (b, r) = vG k el (xs.take K) (b, (xs.drop K).map (Value.int k) ++ r) := by
  unfold vG
  simp only
  rw [← List.append_assoc, ← List.map_append, List.take_append_drop]
/-- append(s, make([]T, k)...) -/
theorem sw_appendZV {d : Nat} {t tx el : TypeId} {nb : Nat} {x y : Operand} {kd kx : IntKind} {i : Int} {pos : String} {after : Array Edge} (xs : List Int) (m' : Nat) (o : Option (Nat × List Value)) (ho : o = none → xs = [])
    [hx : Ev n e x (bufV xs.length o)] [hy : Ev n e y (.int .i64 i)] [he : Elem P t el 1 nb (.int kd 0)] [hu : Und P tx (.int kx)] [tk : TakeO Rs (vG kd el xs) o F]
    (h : i = m' ∧ 0 < m' ∧ xs.length + m' ≤ 9223372036854775807 ∧ (xs.length + m') * nb ≤ 140737488355328)
    (k : ∀ o', o' ≠ none → SW P ops Q n w0 rest ((d, bufV (xs ++ List.replicate m' 0).length o') :: e) (oR (vG kd el (xs ++ List.replicate m' 0)) F o')) :
    SW P ops Q n w0 ({ dst := some d, op := .call { callee := .builtin .append, args := [x, y].toArray, argTypes := [t, tx].toArray }, type := ty, pos := pos, after := after, guard := none } :: rest) e Rs := by
  obtain ⟨h1, h2, h3, h4⟩ := h
  have hl : (xs ++ List.replicate m' 0).length = xs.length + m' := by rw [List.length_append, List.length_replicate]
  cases o with
  | none =>
    obtain rfl := ho rfl
    subst h1
    have hxn : Ev n e x (.slice none 0 0) := hx
    intro w hw
    obtain ⟨i0, hi, hz0, hz1, hz2⟩ := info_parts he.info
    simp only [List.length_nil, Nat.zero_add] at h3 h4
    have hr := Lib.run_append_nil_zeros (P := P) w t tx ty el i0 (.int kd 0) .i64 kx he.und hu.out hi hz0 m' h2 (by omega) (by omega) (by rw [hz2]; omega)
    refine wpM_value rfl (run_call_append rfl w hr) ?_
    rw [actM_put]
    have hzs : (Value.int kd 0).cells.size = 1 := rfl
    have hge := grownCap_ge w m' 0 el
    have h8 := k (some (w.heap.size, (Builtin.zeroCells (Value.int kd 0).cells (grownCap w m' 0 el - m')).toList)) (by simp)
    have h9 := (hw.draw (w.drawn + 1)).new (.cells (Builtin.zeroCells (Value.int kd 0).cells m' ++ Builtin.zeroCells (Value.int kd 0).cells (grownCap w m' 0 el - m')) el (0, 0))
    have e1 : m' + (Builtin.zeroCells (Value.int kd 0).cells (grownCap w m' 0 el - m')).toList.length = grownCap w m' 0 el := by rw [zeroCells_len _ _ hzs]; omega
    have e2 : Builtin.zeroCells (Value.int kd 0).cells m' ++ Builtin.zeroCells (Value.int kd 0).cells (grownCap w m' 0 el - m') = (([] ++ List.replicate m' (0 : Int)).map (Value.int kd) ++ (Builtin.zeroCells (Value.int kd 0).cells (grownCap w m' 0 el - m')).toList).toArray := by
      rw [zeroCells_rep _ (show (Value.int kd 0).oneCell' = true from rfl) m']
      simp
    have e3 : bufV ([] ++ List.replicate m' (0 : Int)).length (some (w.heap.size, (Builtin.zeroCells (Value.int kd 0).cells (grownCap w m' 0 el - m')).toList)) = .slice (some ⟨w.heap.size, 0, none⟩) m' (grownCap w m' 0 el) := by
      show Value.slice _ _ _ = _
      rw [List.nil_append, List.length_replicate, e1]
    rw [e3] at h8
    rw [e2] at h9
    rw [e2]
    exact h8 _ (h9.ent (Ent.cons _ tk.ent))
  | some bt =>
    obtain ⟨b, r0⟩ := bt
    have hxs : Ev n e x (.slice (some ⟨b, 0, none⟩) xs.length (xs.length + r0.length)) := hx
    have tk' : Take Rs b (pts b (.cells (xs.map (Value.int kd) ++ r0).toArray el (0, 0))) F := ⟨tk.ent, tk.back⟩
    refine sw_append_make m' (hx := hxs) (el := el) (tk := tk') ⟨h1, h2, by omega, by rw [List.length_append, List.length_map], h3, h4⟩ fun b' r => ?_
    rw [List.take_left' (by rw [List.length_map])]
    have := k (some (b', r)) (by simp)
    have e3 : bufV (xs ++ List.replicate m' (0 : Int)).length (some (b', r)) = .slice (some ⟨b', 0, none⟩) (xs.length + m') (xs.length + m' + r.length) := by
      show Value.slice _ _ _ = _
      rw [hl]
    rw [e3, vG_some, List.map_append, List.map_replicate] at this
    exact this
/-! elements of several cells -/
theorem sw_appendNV {d : Nat} {t el : TypeId} {nb sz : Nat} {x y : Operand} {z : Value} {b7 : Nat} {c' : Nat} {t' : TypeId} {fr : Nat × Nat} {F2 : List Res} {pos : String} {after : Array Edge} (cells src : List Value) (m : Nat) (o : Option (Nat × Nat × List Value)) (ho : NOk sz cells m o)
    [hx : Ev n e x (nV m o)] [hy : Ev n e y (.slice (some ⟨b7, 0, none⟩) 1 c')] [he : Elem P t el sz nb z] [tk : TakeO Rs (nG el cells) o F] [tk2 : Take Rs b7 (pts b7 (.cells src.toArray t' fr)) F2]
    (h1 : ∀ v ∈ src, v.oneCell' = true) (hzc : z.cells.size = sz) (hsz : 0 < sz)
    (h : src.length = sz ∧ m + 1 ≤ 9223372036854775807 ∧ (m + 1) * nb ≤ 140737488355328)
    (k : ∀ o', o' ≠ none → NOk sz (cells ++ src) (m + 1) o' → SW P ops Q n w0 rest ((d, nV (m + 1) o') :: e) (oR (nG el (cells ++ src)) F o')) :
    SW P ops Q n w0 ({ dst := some d, op := .call { callee := .builtin .append, args := [x, y].toArray, argTypes := [t, t].toArray }, type := ty, pos := pos, after := after, guard := none } :: rest) e Rs := by
  obtain ⟨h2, h3, h4⟩ := h
  obtain ⟨q1, q2, q3⟩ := ho
  cases o with
  | none =>
    obtain ⟨rfl, rfl⟩ := q2 rfl
    have hxn : Ev n e x (.slice none 0 0) := hx
    refine sw_appendN_nil (src := src) (hx := hxn) (hy := hy) (el := el) src_pts0 hzc hsz ⟨by omega, by omega, by omega, by omega⟩ fun b' r c2 hc2 hl2 => ?_
    have hk := k (some (b', c2, r)) (by simp) ⟨by rw [List.nil_append]; omega, fun h => (by cases h), fun b c t hh => by cases hh; exact ⟨hc2, hl2⟩⟩
    exact sw_ent (Ent.cons _ tk.ent) hk
  | some bt =>
    obtain ⟨b, c, r0⟩ := bt
    obtain ⟨q4, q5⟩ := q3 b c r0 rfl
    have hxs : Ev n e x (.slice (some ⟨b, 0, none⟩) m c) := hx
    have tk' : Take Rs b (pts b (.cells (cells ++ r0).toArray el (0, 0))) F := ⟨tk.ent, tk.back⟩
    refine sw_appendN (src := src) (hx := hxs) (hy := hy) (el := el) (tk := tk') src_pts0 h1 hzc hsz ⟨q4, q5, by omega, h3, h4⟩ fun b' r c2 hc2 hl2 => ?_
    rw [List.take_left' q1] at hl2 ⊢
    exact k (some (b', c2, r)) (by simp) ⟨by rw [List.length_append, q1, h2, Nat.add_mul]; omega, fun h => (by cases h), fun b c t hh => by cases hh; exact ⟨hc2, hl2⟩⟩
theorem runop_lenNV {t et : TypeId} {x : Operand} {m : Nat} (o : Option (Nat × Nat × List Value)) (ho : o = none → m = 0) [hx : Ev n e x (nV m o)] [hu : Und P t (.slice et)] : RunOp P n w0 e Rs (.call { callee := .builtin .len, args := [x].toArray, argTypes := [t].toArray }) ty (.int .i64 m) := by
  cases o with
  | none =>
    have := ho rfl
    subst this
    have hx' : Ev n e x (.slice none 0 0) := hx
    exact @RunOp.pure P n w0 e Rs _ _ _ (PureOp.sllen x none 0 0 t et)
  | some bt =>
    obtain ⟨b, c, r⟩ := bt
    have hx' : Ev n e x (.slice (some ⟨b, 0, none⟩) m c) := hx
    exact @RunOp.pure P n w0 e Rs _ _ _ (PureOp.sllen x _ m _ t et)
/-- its element -/
theorem runop_idxV {t et : TypeId} {x y : Operand} {b m : Nat} {r : List Value} {k : IntKind} {i : Int} (j : Nat) [hx : Ev n e x (bufV m (some (b, r)))] [hy : Ev n e y (.int k i)] [hu : Und P t (.slice et)] [hs : SizeOf P et 1] (h : i = j ∧ j < m) :
    RunOp P n w0 e Rs (.indexAddr t x y) ty (.pointer (some ⟨b, j, none⟩)) := by
  have hx' : Ev n e x (.slice (some ⟨b, 0, none⟩) m (m + r.length)) := hx
  exact runop_idx j h
/-- len of it -/
theorem runop_lenV {t et : TypeId} {x : Operand} {m : Nat} (o : Option (Nat × List Value)) (ho : o = none → m = 0) [hx : Ev n e x (bufV m o)] [hu : Und P t (.slice et)] : RunOp P n w0 e Rs (.call { callee := .builtin .len, args := [x].toArray, argTypes := [t].toArray }) ty (.int .i64 m) := by
  cases o with
  | none =>
    have := ho rfl
    subst this
    have hx' : Ev n e x (.slice none 0 0) := hx
    exact @RunOp.pure P n w0 e Rs _ _ _ (PureOp.sllen x none 0 0 t et)
  | some bt =>
    obtain ⟨b, r⟩ := bt
    have hx' : Ev n e x (.slice (some ⟨b, 0, none⟩) m (m + r.length)) := hx
    exact @RunOp.pure P n w0 e Rs _ _ _ (PureOp.sllen x _ m _ t et)
end
end Go.Gsl
