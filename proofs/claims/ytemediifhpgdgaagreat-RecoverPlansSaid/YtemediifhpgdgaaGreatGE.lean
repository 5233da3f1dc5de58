/- Functions of five results. -/
import Derived.Test.YtemediifhpgdgaaGreatGB
import Derived.Deep.AppendSrc
import Derived.RecoverIn
namespace Go.Gsl
set_option linter.unusedVariables false
section
variable {P : Program} {n : Nat} {w0 : World} {e : Env} {Rs : List Res}
theorem results_run5 {fn : Func} {t1 t2 t3 t4 t5 : Nat} {v1 v2 v3 v4 v5 : Value} (hr : fn.results = #[.tmp t1, .tmp t2, .tmp t3, .tmp t4, .tmp t5]) [h1 : Lk e t1 v1] [n1 : Lt t1 n] [h2 : Lk e t2 v2] [n2 : Lt t2 n] [h3 : Lk e t3 v3] [n3 : Lt t3 n] [h4 : Lk e t4 v4] [n4 : Lt t4 n] [h5 : Lk e t5 v5] [n5 : Lt t5 n] (w : World) : (results fn (act n e).tmps).run P w = .ok (.tuple #[v1, v2, v3, v4, v5]) w := by
  have a1 : (slots n e)[t1]? = some v1 := by rw [slots_getElem? n e t1 n1.out, h1.out]
  have a2 : (slots n e)[t2]? = some v2 := by rw [slots_getElem? n e t2 n2.out, h2.out]
  have a3 : (slots n e)[t3]? = some v3 := by rw [slots_getElem? n e t3 n3.out, h3.out]
  have a4 : (slots n e)[t4]? = some v4 := by rw [slots_getElem? n e t4 n4.out, h4.out]
  have a5 : (slots n e)[t5]? = some v5 := by rw [slots_getElem? n e t5 n5.out, h5.out]
  simp [results, hr, act, a1, a2, a3, a4, a5]
theorem sq_ret5 {fn : Func} {R : Value → List Res → Prop} {t1 t2 t3 t4 t5 : Nat} {v1 v2 v3 v4 v5 : Value} (hr : fn.results = #[.tmp t1, .tmp t2, .tmp t3, .tmp t4, .tmp t5]) [Lk e t1 v1] [Lt t1 n] [Lk e t2 v2] [Lt t2 n] [Lk e t3 v3] [Lt t3 n] [Lk e t4 v4] [Lt t4 n] [Lk e t5 v5] [Lt t5 n] (h : ∃ Rs', R (.tuple #[v1, v2, v3, v4, v5]) Rs' ∧ Ent Rs Rs') : SQ (Post P fn w0 R) n w0 .ret e Rs := sq_of (results_run5 hr) h
end
end Go.Gsl

namespace Go.Gsl
set_option linter.unusedVariables false
section
variable {P : Program} {ops : List Oper} {Q : Cont} {n : Nat} {w0 : World} {rest : List Oper} {e : Env} {Rs F : List Res} {ty : TypeId}

theorem zeroCells_lenN (z : Array Value) (n sz : Nat) (h : z.size = sz) : (Builtin.zeroCells z n).toList.length = n * sz := by
  rw [Array.length_toList, size_zeroCells, h]

/-- []T{..}, an element having several cells -/
theorem runp_buildSliceN {t el : TypeId} {sz nb : Nat} {m : Nat} {xs : List (Nat × Operand)} {vs : List (Nat × Value)} {z : Value} {cs : List Value} [hx : PartsL n e xs vs] [he : Elem P t el sz nb z] (hm : 0 < m ∧ m * sz ≤ 16777216 ∧ 0 < m * sz)
    (hf : Instr.fill (fun i => some (i * sz, sz)) (Array.map (fun x => z.cells[x % z.cells.size]!) (Array.range (m * sz))) vs = some cs.toArray) {o : Oper} (ho : o.op = .buildSlice t m xs.toArray) (w : World) :
    (execOp (act n e).eval o).run P w = .ok (.value (.slice (some ⟨w.heap.size, 0, none⟩) m m)) (w.alloc (.cells cs.toArray el)) := by
  obtain ⟨i0, hi, hz0, hz1, hz2⟩ := info_parts he.info
  unfold execOp
  rw [ho]
  have h2 : (List.map (fun x : Nat × Operand => match x with | (i, x) => (i, (act n e).eval x)) xs) = vs := by rw [← hx.out]
  have h3 : ¬ (16777216 < m * sz) := by omega
  have h0 : ¬ m * sz = 0 := by omega
  simp [Instr.buildSlice, run_underlying he.und, sizeOf, typeInfo, hi, hz1, zeroValue, hz0, newRow, h2, h3]
  try rw [if_neg h0]
  rw [hf]
  simp
theorem sw_buildSliceN {d : Nat} {t el : TypeId} {sz nb : Nat} {m : Nat} {xs : List (Nat × Operand)} {vs : List (Nat × Value)} {z : Value} {pos : String} {after : Array Edge} (cs : List Value) [hx : PartsL n e xs vs] [he : Elem P t el sz nb z] (hm : 0 < m ∧ m * sz ≤ 16777216 ∧ 0 < m * sz)
    (hf : Instr.fill (fun i => some (i * sz, sz)) (Array.map (fun x => z.cells[x % z.cells.size]!) (Array.range (m * sz))) vs = some cs.toArray)
    (k : ∀ b, SW P ops Q n w0 rest ((d, .slice (some ⟨b, 0, none⟩) m m) :: e) ((b, pts b (.cells cs.toArray el (0, 0))) :: Rs)) :
    SW P ops Q n w0 ({ dst := some d, op := .buildSlice t m xs.toArray, type := ty, pos := pos, after := after, guard := none } :: rest) e Rs := by
  intro w hw
  refine wpM_value rfl (runp_buildSliceN hm hf rfl w) ?_
  rw [actM_put]
  exact k w.heap.size _ (hw.new _)
/-- []T{} -/
theorem sw_buildSlice0 {d : Nat} {t el : TypeId} {sz nb : Nat} {z : Value} {pos : String} {after : Array Edge} [he : Elem P t el sz nb z]
    (k : ∀ b, SW P ops Q n w0 rest ((d, .slice (some ⟨b, 0, none⟩) 0 0) :: e) ((b, pts b (.cells ([] : List Value).toArray el (0, 0))) :: Rs)) :
    SW P ops Q n w0 ({ dst := some d, op := .buildSlice t 0 #[], type := ty, pos := pos, after := after, guard := none } :: rest) e Rs := by
  intro w hw
  obtain ⟨i0, hi, hz0, hz1, hz2⟩ := info_parts he.info
  have hr : ∀ o : Oper, o.op = .buildSlice t 0 #[] → (execOp (act n e).eval o).run P w = .ok (.value (.slice (some ⟨w.heap.size, 0, none⟩) 0 0)) (w.alloc (.cells ([] : List Value).toArray el)) := by
    intro o ho
    unfold execOp
    rw [ho]
    simp [Instr.buildSlice, run_underlying he.und, sizeOf, typeInfo, hi, newRow, Instr.fill]
    have h5 : (Array.map (fun _ : Nat => (default : Value)) (Array.range 0)) = Array.replicate 0 z := by simp
    rw [h5]
    simp
  refine wpM_value rfl (hr _ rfl) ?_
  rw [actM_put]
  exact k w.heap.size _ (hw.new _)

/-- append(s, x...): onto a row of one's own -/
theorem sw_appendN {d : Nat} {t el : TypeId} {nb sz : Nat} {x y : Operand} {z : Value} {b m c m' c' : Nat} {a : Option Addr} {cs src : List Value} {pos : String} {after : Array Edge}
    [hx : Ev n e x (.slice (some ⟨b, 0, none⟩) m c)] [hy : Ev n e y (.slice a m' c')] [he : Elem P t el sz nb z] [tk : Take Rs b (pts b (.cells cs.toArray el (0, 0))) F]
    (hsrc : ∀ w, Sat w0 w Rs → ∀ j v, src[j]? = some v → ∃ ad, a = some ad ∧ w.cell? (ad.add j) = some v) (h1 : ∀ v ∈ src, v.oneCell' = true) (hzc : z.cells.size = sz) (hsz : 0 < sz)
    (h : m ≤ c ∧ cs.length = c * sz ∧ src.length = m' * sz ∧ m + m' ≤ 9223372036854775807 ∧ (m + m') * nb ≤ 140737488355328)
    (k : ∀ b' r c2, m + m' ≤ c2 → (cs.take (m * sz) ++ src ++ r).length = c2 * sz → SW P ops Q n w0 rest ((d, .slice (some ⟨b', 0, none⟩) (m + m') c2) :: e) ((b', pts b' (.cells (cs.take (m * sz) ++ src ++ r).toArray el (0, 0))) :: F)) :
    SW P ops Q n w0 ({ dst := some d, op := .call { callee := .builtin .append, args := [x, y].toArray, argTypes := [t, t].toArray }, type := ty, pos := pos, after := after, guard := none } :: rest) e Rs := by
  intro w hw
  obtain ⟨h2, h3, h4, h5, h6⟩ := h
  obtain ⟨i0, hi, hz0, hz1, hz2⟩ := info_parts he.info
  have hb := hw.get tk
  have hzs : z.cells.size = sz := hzc
  have hmc : m * sz ≤ c * sz := Nat.mul_le_mul_right _ h2
  have hl1 : src.length = m' * i0.size := by rw [hz1]; exact h4
  have hl2 : (cs.take (m * sz)).length = m * i0.size := by rw [hz1, List.length_take, h3]; omega
  have hl3 : (cs.take (m * sz)).length = m * sz := by rw [List.length_take, h3]; omega
  have holds : ∀ j v, (cs.take (m * sz))[j]? = some v → w.cell? (Addr.add ⟨b, 0, none⟩ j) = some v := fun j v hj => by
    refine cell_row hb ?_
    rw [Nat.zero_add]
    rw [List.getElem?_take] at hj
    split at hj
    · exact hj
    · cases hj
  by_cases hm : m' = 0
  · -- nothing comes
    subst hm
    have hs0 : src = [] := List.eq_nil_of_length_eq_zero (by omega)
    subst hs0
    have hf : ∀ ad : Addr, (Builtin.firstCells i0.size 0 (.slice (some ad) 0 c')).run P w = .ok #[] w := fun ad => run_firstCells_some w i0.size 0 ad 0 c' [] (by simp) (by simp)
    have hr : (Builtin.append_ #[t, t] ty #[.slice (some ⟨b, 0, none⟩) m c, .slice a 0 c']).run P w = .ok (.slice (some ⟨b, 0, none⟩) m c) w := by
      cases a with
      | none => simp [Builtin.append_, run_underlying he.und, sizeOf, typeInfo, hi, Builtin.lenOf, h2, run_firstCells_none, storeCells]
      | some ad => simp [Builtin.append_, run_underlying he.und, sizeOf, typeInfo, hi, Builtin.lenOf, h2, hf, storeCells]
    refine wpM_value rfl (run_call_append rfl w hr) ?_
    rw [actM_put]
    have h8 := k b (cs.drop (m * sz)) c
    have e2 : cs.take (m * sz) ++ [] ++ cs.drop (m * sz) = cs := by simp
    rw [e2] at h8
    exact h8 (by omega) h3 w (hw.ent tk.ent)
  · obtain ⟨ad, rfl⟩ : ∃ ad, a = some ad := by
      have hp : 0 < m' * sz := Nat.mul_pos (by omega) hsz
      cases hs : src with
      | nil => rw [hs] at h4; simp only [List.length_nil] at h4; omega
      | cons v r => obtain ⟨ad, h, _⟩ := hsrc w hw 0 v (by rw [hs]; rfl); exact ⟨ad, h⟩
    have hsrc' : ∀ j v, src[j]? = some v → w.cell? (ad.add j) = some v := fun j v hj => by
      obtain ⟨ad', h7, h8⟩ := hsrc w hw j v hj
      cases h7; exact h8
    by_cases hroom : m + m' ≤ c
    · have hrz : (m + m') * sz ≤ c * sz := Nat.mul_le_mul_right _ hroom
      have e1 : m * sz + m' * sz = (m + m') * sz := (Nat.add_mul _ _ _).symm
      have hr := run_append_room (P := P) w t ty el i0 he.und hi b m c cs.toArray hb ad m' c' src hl1 hsrc' h1 hroom (by rw [hz1]; simp; omega)
      refine wpM_value rfl (run_call_append rfl w hr) ?_
      rw [actM_put]
      have h8 := k b (cs.drop ((m + m') * sz)) c hroom (by
        rw [List.length_append, List.length_append, hl3, h4, List.length_drop, h3]; omega)
      have h9 := hw.set tk (.cells (cs.take (m * sz) ++ src ++ cs.drop ((m + m') * sz)).toArray el (0, 0))
      rw [hz1, h4, setRow_eq hb, e1]
      exact h8 _ h9
    · have hr := run_append_grow (P := P) w t ty el i0 z he.und hi hz0 ⟨b, 0, none⟩ m c (cs.take (m * sz)) hl2 holds ad m' c' src hl1 hsrc' (by omega) (by omega) (growslice_fits (by omega) (by rw [hz2]; exact h6))
      refine wpM_value rfl (run_call_append rfl w hr) ?_
      rw [actM_put]
      have hge := grownCap_ge w (m + m') c el
      have e1 : m * sz + m' * sz = (m + m') * sz := (Nat.add_mul _ _ _).symm
      have e3 : (m + m') * sz + (grownCap w (m + m') c el - (m + m')) * sz = grownCap w (m + m') c el * sz := by rw [← Nat.add_mul]; congr 1; omega
      have h8 := k w.heap.size (Builtin.zeroCells z.cells (grownCap w (m + m') c el - (m + m'))).toList (grownCap w (m + m') c el) hge (by
        rw [List.length_append, List.length_append, hl3, h4, zeroCells_lenN _ _ sz hzs]; omega)
      have h9 := (((hw.draw (w.drawn + 1)).new (.cells ((cs.take (m * sz)).toArray ++ src.toArray ++ Builtin.zeroCells z.cells (grownCap w (m + m') c el - (m + m'))) el (0, 0))).ent (Ent.cons _ (tk.ent.trans (Ent.drop _ _))))
      have e2 : (cs.take (m * sz)).toArray ++ src.toArray ++ Builtin.zeroCells z.cells (grownCap w (m + m') c el - (m + m')) = (cs.take (m * sz) ++ src ++ (Builtin.zeroCells z.cells (grownCap w (m + m') c el - (m + m'))).toList).toArray := by simp
      rw [e2] at h9 ⊢
      exact h8 _ h9

/-- append(s, x...), s being nil and something coming -/
theorem sw_appendN_nil {d : Nat} {t el : TypeId} {nb sz : Nat} {x y : Operand} {z : Value} {m' c' : Nat} {a : Option Addr} {src : List Value} {pos : String} {after : Array Edge}
    [hx : Ev n e x (.slice none 0 0)] [hy : Ev n e y (.slice a m' c')] [he : Elem P t el sz nb z]
    (hsrc : ∀ w, Sat w0 w Rs → ∀ j v, src[j]? = some v → ∃ ad, a = some ad ∧ w.cell? (ad.add j) = some v) (hzc : z.cells.size = sz) (hsz : 0 < sz)
    (h : 0 < m' ∧ src.length = m' * sz ∧ m' ≤ 9223372036854775807 ∧ m' * nb ≤ 281474976710656)
    (k : ∀ b' r c2, m' ≤ c2 → (src ++ r).length = c2 * sz → SW P ops Q n w0 rest ((d, .slice (some ⟨b', 0, none⟩) m' c2) :: e) ((b', pts b' (.cells (src ++ r).toArray el (0, 0))) :: Rs)) :
    SW P ops Q n w0 ({ dst := some d, op := .call { callee := .builtin .append, args := [x, y].toArray, argTypes := [t, t].toArray }, type := ty, pos := pos, after := after, guard := none } :: rest) e Rs := by
  intro w hw
  obtain ⟨h2, h4, h5, h6⟩ := h
  obtain ⟨i0, hi, hz0, hz1, hz2⟩ := info_parts he.info
  have hl1 : src.length = m' * i0.size := by rw [hz1]; exact h4
  obtain ⟨ad, rfl⟩ : ∃ ad, a = some ad := by
    have hp : 0 < m' * sz := Nat.mul_pos (by omega) hsz
    cases hs : src with
    | nil => rw [hs] at h4; simp only [List.length_nil] at h4; omega
    | cons v r => obtain ⟨ad, h, _⟩ := hsrc w hw 0 v (by rw [hs]; rfl); exact ⟨ad, h⟩
  have hsrc' : ∀ j v, src[j]? = some v → w.cell? (ad.add j) = some v := fun j v hj => by
    obtain ⟨ad', h7, h8⟩ := hsrc w hw j v hj
    cases h7; exact h8
  have hr := run_append_nil (P := P) w t ty el i0 z he.und hi hz0 ad m' c' src hl1 hsrc' h2 (by omega) (by rw [hz2]; exact h6)
  refine wpM_value rfl (run_call_append rfl w hr) ?_
  rw [actM_put]
  have hge := grownCap_ge w m' 0 el
  have e3 : m' * sz + (grownCap w m' 0 el - m') * sz = grownCap w m' 0 el * sz := by rw [← Nat.add_mul]; congr 1; omega
  have h8 := k w.heap.size (Builtin.zeroCells z.cells (grownCap w m' 0 el - m')).toList (grownCap w m' 0 el) hge (by
    rw [List.length_append, h4, zeroCells_lenN _ _ sz hzc]; omega)
  have h9 := (hw.draw (w.drawn + 1)).new (.cells (src.toArray ++ Builtin.zeroCells z.cells (grownCap w m' 0 el - m')) el (0, 0))
  have e2 : src.toArray ++ Builtin.zeroCells z.cells (grownCap w m' 0 el - m') = (src ++ (Builtin.zeroCells z.cells (grownCap w m' 0 el - m')).toList).toArray := by simp
  rw [e2] at h9 ⊢
  exact h8 _ h9

/-- s[l:h:m] -/
theorem runop_sliceN {t el : TypeId} {nb sz : Nat} {x : Operand} {lo hi mx : Option Operand} {vl vh vm : Option Value} {b o len cap : Nat} {li hi' mi : Int} {ok : Prop} {z : Value} (l h m o' : Nat)
    [hx : Ev n e x (.slice (some ⟨b, o, none⟩) len cap)] [h1 : EvO n e lo vl] [h2 : EvO n e hi vh] [h3 : EvO n e mx vm] [he : Elem P t el sz nb z] [hb : Bounds len cap vl vh vm li hi' mi ok] (hok : ok) (hl : li = l ∧ hi' = h ∧ mi = m ∧ (if m = l then o else o + l * sz) = o') :
    RunOp P n w0 e Rs (.slice t x lo hi mx) ty (.slice (some ⟨b, o', none⟩) (h - l) (m - l)) := by
  obtain ⟨rfl, rfl, rfl, rfl⟩ := hl
  obtain ⟨i0, hi0, hz0, hz1, hz2⟩ := info_parts he.info
  refine ⟨fun op ho _ w _ => ?_⟩
  unfold execOp; rw [ho]
  have h4 := hb.out hok P w
  simp only [Int.toNat_natCast] at h4
  simp only [Instr.sliceAt, Instr.slice, Sem.run_bind, run_underlying he.und, Result.andThen_ok, hx.out, h1.out, h2.out, h3.out, h4, sizeOf, typeInfo]
  by_cases hm : m = l
  · simp [hm, hi0]
  · simp [hm, hi0, hz1, add_plain]
end
end Go.Gsl

namespace Go.Gsl
set_option linter.unusedVariables false
/-- The contract of an iterator that leaves 'rs2' of 'rs'. -/
def IterC2 (P : Program) (f : FuncId) (cs : List Value) (ks : List Nat) (rs rs2 : List HProp) {α : Type} (enc : α → Value) (Nx : List α → α → Prop) (Dn : List α → Prop) : Prop :=
  ∀ (l : Nat) (J Jx : List α → HProp),
    (∀ pre x, Nx pre x → SpecY P l [enc x] [l] [J pre] fun F v Rs' => (v = .bool true ∧ Rs' = (l, J (pre ++ [x])) :: F) ∨ (v = .bool false ∧ Rs' = (l, Jx (pre ++ [x])) :: F)) →
    Spec P f (.func (.yield l) #[] #[] :: cs) (l :: ks) (J [] :: rs) fun F v Rs' => v = .tuple #[] ∧
      ((∃ xs, Dn xs ∧ Rs' = (l, J xs) :: (ks.zip rs2 ++ F)) ∨ (∃ pre x, Nx pre x ∧ Rs' = (l, Jx (pre ++ [x])) :: (ks.zip rs2 ++ F)))
section
variable {P : Program} {ops : List Oper} {Q : Cont} {n : Nat} {w0 : World} {l rest : List Oper} {e : Env} {Rs Rs' F G : List Res} {ty : TypeId}
/-- 'for x := range g { body }', at the outermost. -/
theorem sc_rangeFunc2 {α : Type} {g : Operand} {p : Nat} {assign body : Code} {f : FuncId} {cs : List Value} {ks : List Nat} {rs rs2 : List HProp} {enc : α → Value} {Nx : List α → α → Prop} {Dn : List α → Prop}
    (it : IterC2 P f cs ks rs rs2 enc Nx Dn) (hq : Q.r = none) (St : List α → List Res) (Sx : Code → List α → List Res) [hg : Ev n e g (.func (.func f) #[] cs.toArray)] [hb : Body P f] [hsp : Split Rs ks rs F]
    (h0 : Ent F (St []))
    (round : ∀ w0 lp rc F' pre x, Nx pre x → SC P (Cont.rAssign P lp body (Cont.rEnd P lp rc (St (pre ++ [x])) (fun c => Sx c (pre ++ [x])) w0 F')) n w0 assign ((p, enc x) :: e) ((lp, LoopR lp rc .ready none) :: (St pre ++ F')))
    (done : ∀ r xs, Dn xs → SQ (Q.mark r) n w0 .normal e ((r, defers0 r) :: (ks.zip rs2 ++ St xs)))
    (stop : ∀ r c pre x, Nx pre x → SC P (Q.mark r) n w0 c e ((r, defers0 r) :: (ks.zip rs2 ++ Sx c (pre ++ [x])))) :
    SC P Q n w0 (.rangeFunc g #[p] assign body) e Rs := by
  intro w hw
  rw [hq]
  refine wpIn_rangeFunc ?_
  intro fn hfn
  obtain ⟨rc, hrc⟩ : ∃ rc : Loop, rc = { state := .ready, pending := none, fn, tmps := (actM Q.m n e).tmps, params := #[p], assign, body, defers := w.heap.size } := ⟨_, rfl⟩
  obtain ⟨W1, hW1⟩ : ∃ W1, (w.alloc (.deferred (some []))).alloc (.loop rc) = W1 := ⟨_, rfl⟩
  have hs0 : Sat w0 w (ks.zip rs ++ F) := hw.ent hsp.ent
  have hs1 : Sat w0 (w.alloc (.deferred (some []))) ((w.heap.size, defers0 w.heap.size) :: (ks.zip rs ++ F)) := hs0.new _
  have hs2 : Sat w0 W1 ((w.heap.size + 1, pts (w.heap.size + 1) (.loop rc)) :: (w.heap.size, defers0 w.heap.size) :: (ks.zip rs ++ F)) := by
    have := hs1.new (.loop rc)
    rw [World.size_alloc] at this
    rw [← hW1]; exact this
  refine ⟨w.heap.size + 1, [{ target := .collected w.heap.size, args := #[] }], W1, { target := .fn (.func f) cs.toArray, args := #[.func (.yield (w.heap.size + 1)) #[] #[]] }, W1, f,
    #[.func (.yield (w.heap.size + 1)) #[] #[]] ++ cs.toArray, W1, ?_, ?_, fun _ _ => trivial, ?_, fun h => by simp [fz, Fence.wide] at h, ?_⟩
  · rw [← hW1, hrc]; exact run_enterLoop_outer _ _ _ _ _
  · have : (actM Q.m n e).eval g = .func (.func f) #[] cs.toArray := hg.out
    simp only [resolve, this]
    simp [Deferred.ofValue, Act.eval]
  · have h3 : #[.func (.yield (w.heap.size + 1)) #[] #[]] ++ cs.toArray = #[.func (.yield (w.heap.size + 1)) #[] #[]] ++ cs.toArray := rfl
    simp only [invoke]
    exact hb.out _ _
  · refine callsIn_fz.2 ?_
    have hspec := it (w.heap.size + 1) (fun pre => hall ((w.heap.size + 1, LoopR (w.heap.size + 1) rc .ready none) :: St pre)) (fun pre h => ∃ c, hall ((w.heap.size + 1, LoopR (w.heap.size + 1) rc .done (some c)) :: Sx c pre) h) ?_
    · have h4 : #[.func (.yield (w.heap.size + 1)) #[] #[]] ++ cs.toArray = (Value.func (.yield (w.heap.size + 1)) #[] #[] :: cs).toArray := by simp
      rw [h4]
      refine Calls.mono (hspec w0 [(w.heap.size, defers0 w.heap.size)] W1 ?_) ?_
      · show Sat w0 W1 ((w.heap.size + 1, _) :: (ks.zip rs ++ [(w.heap.size, defers0 w.heap.size)]))
        refine hs2.ent ?_
        have e1 : pts (w.heap.size + 1) (.loop rc) = LoopR (w.heap.size + 1) rc .ready none := by unfold LoopR; rw [hrc]
        rw [e1]
        refine Ent.trans (B := (w.heap.size + 1, LoopR (w.heap.size + 1) rc .ready none) :: (St [] ++ (ks.zip rs ++ [(w.heap.size, defers0 w.heap.size)]))) (Ent.cons _ ?_) (Ent.hall_close _ (_ :: _) _)
        refine Ent.trans (B := (w.heap.size, defers0 w.heap.size) :: (ks.zip rs ++ St [])) (Ent.cons _ (Ent.append (Ent.refl _) h0)) (Ent.perm ?_)
        refine (List.perm_append_comm (l₁ := [_]) (l₂ := ks.zip rs ++ St [])).trans ?_
        rw [← List.append_assoc]
        exact (List.perm_append_comm (l₁ := ks.zip rs) (l₂ := St [])).append_right _
      · rintro x w' ⟨v, Rs', rfl, ⟨rfl, hc⟩, hs'⟩
        have hperm : ∀ S : List Res, Ent (S ++ (ks.zip rs2 ++ [(w.heap.size, defers0 w.heap.size)])) ((w.heap.size, defers0 w.heap.size) :: (ks.zip rs2 ++ S)) := fun S => by
          refine Ent.perm (List.Perm.symm ?_)
          refine (List.perm_append_comm (l₁ := [_]) (l₂ := ks.zip rs2 ++ S)).trans ?_
          rw [← List.append_assoc]
          exact (List.perm_append_comm (l₁ := ks.zip rs2) (l₂ := S)).append_right _
        rcases hc with ⟨xs, hD, rfl⟩ | ⟨pre, x, hN, rfl⟩
        · have hs3 := hs'.ent (Ent.hall_open _ (_ :: _) _)
          have hb3 := hs3.get (Take.here _ _ _)
          refine ⟨none, _, run_endLoop hb3 (by simp), ?_⟩
          have hs4 := (hs3.set (Take.here _ _ _) (.loop { rc with state := .exhausted, pending := none })).ent ((Ent.drop _ _).trans (hperm (St xs)))
          exact done w.heap.size xs hD _ hs4
        · obtain ⟨c, hc⟩ := sat_ex (R := fun c => hall ((w.heap.size + 1, LoopR (w.heap.size + 1) rc .done (some c)) :: Sx c (pre ++ [x]))) hs'
          have hs3 := hc.ent (Ent.hall_open _ (_ :: _) _)
          have hb3 := hs3.get (Take.here _ _ _)
          refine ⟨some c, _, run_endLoop hb3 (by simp), ?_⟩
          have hs4 := (hs3.set (Take.here _ _ _) (.loop { rc with state := .exhausted, pending := some c })).ent ((Ent.drop _ _).trans (hperm (Sx c (pre ++ [x]))))
          have := stop w.heap.size c pre x hN _ hs4
          rw [show (Q.mark w.heap.size).r = none from hq] at this
          exact this
    · intro pre x hN w0' F' w' hs'
      have hs3 := hs'.ent (Ent.hall_open _ (_ :: _) _)
      have hb3 := hs3.get (Take.here _ _ _)
      have hy := run_yield (P := P) (args := #[enc x]) hb3 (by simp [hrc])
      refine ⟨fn, _, assign, body, by rw [hrc] at hy; exact hy, ?_⟩
      refine roundIn_of_wpIn (F := fz none) hfn ?_
      have hr := round w0' (w.heap.size + 1) rc F' pre x hN w' hs3
      have ha := act_round (m := Q.m) (n := n) (e := e) (p := p) (v := enc x)
      rw [show (Cont.rAssign P (w.heap.size + 1) body (Cont.rEnd P (w.heap.size + 1) rc (St (pre ++ [x])) (fun c => Sx c (pre ++ [x])) w0' F')).m = [] from rfl, ← ha] at hr
      refine Code.wpIn_mono ?_ hr
      intro x0 a0 w1 hq1
      cases x0 with
      | normal =>
        obtain ⟨w2, hb, hbody⟩ := hq1
        refine ⟨w2, hb, Code.wpIn_mono ?_ hbody⟩
        intro e1 a1 w4 h1
        have h2 : roundPost P (w.heap.size + 1) (fun y w' => (y = .returned (.bool true) ∧ Sat w0' w' ((w.heap.size + 1, LoopR (w.heap.size + 1) rc .ready none) :: St (pre ++ [x]) ++ F')) ∨ (y = .returned (.bool false) ∧ ∃ c, Sat w0' w' ((w.heap.size + 1, LoopR (w.heap.size + 1) rc .done (some c)) :: Sx c (pre ++ [x]) ++ F'))) e1 a1 w4 := h1
        refine roundPost_mono ?_ e1 a1 w4 h2
        rintro y w3 (⟨rfl, hs⟩ | ⟨rfl, c, hs⟩)
        · exact ⟨_, _, rfl, .inl ⟨rfl, rfl⟩, hs.ent (Ent.hall_close _ (_ :: _) _)⟩
        · refine ⟨_, _, rfl, .inr ⟨rfl, rfl⟩, ?_⟩
          exact sat_ex_of (R := fun c => hall ((w.heap.size + 1, LoopR (w.heap.size + 1) rc .done (some c)) :: Sx c (pre ++ [x]))) c (hs.ent (Ent.hall_close _ (_ :: _) _))
      | _ => exact hq1.elim

end
end Go.Gsl

namespace Go.Gsl
set_option linter.unusedVariables false
/-- none, or one more ahead -/
def oR {α : Type} (g : α → Res) (F : List Res) : Option α → List Res
  | none => F
  | some a => g a :: F
theorem oR.ent {α : Type} {g : α → Res} {A B : List Res} (h : Ent A B) (o : Option α) : Ent (oR g A o) (oR g B o) := by
  cases o with
  | none => exact h
  | some a => exact Ent.cons _ h
theorem oR.swap {α : Type} {g : α → Res} (q : Res) {A : List Res} (o : Option α) : Ent (oR g (q :: A) o) (q :: oR g A o) := by
  cases o with
  | none => exact Ent.refl _
  | some a => exact Ent.swap _ _ _
theorem oR.swap' {α : Type} {g : α → Res} (q : Res) {A : List Res} (o : Option α) : Ent (q :: oR g A o) (oR g (q :: A) o) := by
  cases o with
  | none => exact Ent.refl _
  | some a => exact Ent.swap _ _ _
instance (priority := 60) Take.oR {α : Type} (g : α → Res) (A : List Res) (o : Option α) (k : Nat) (r : HProp) (F : List Res) [h : Take A k r F] : Take (oR g A o) k r (oR g F o) :=
  ⟨(oR.ent h.ent o).trans (oR.swap _ o), (oR.swap' _ o).trans (oR.ent h.back o)⟩
section
variable {P : Program} {ops : List Oper} {Q : Cont} {n : Nat} {w0 : World} {rest : List Oper} {e : Env} {Rs F : List Res} {ty : TypeId}
/-- an element of several cells -/
theorem runop_indexN {t et : TypeId} {x y : Operand} {b off m c sz : Nat} {k : IntKind} {i : Int} (j : Nat) [hx : Ev n e x (.slice (some ⟨b, off, none⟩) m c)] [hy : Ev n e y (.int k i)] [hu : Und P t (.slice et)] [hs : SizeOf P et sz] (h : i = j ∧ j < m) :
    RunOp P n w0 e Rs (.indexAddr t x y) ty (.pointer (some ⟨b, off + j * sz, none⟩)) := by
  have h1 : PureOp P n e (.indexAddr t x y) ty (.pointer (some ⟨b, off + i.toNat * sz, none⟩)) := pure_index (by omega)
  rw [show i.toNat = j by omega] at h1
  exact @RunOp.pure P n w0 e Rs _ _ _ h1
end
end Go.Gsl

namespace Go.Gsl
set_option linter.unusedVariables false
section
variable {P : Program} {ops : List Oper} {Q : Cont} {n : Nat} {w0 : World} {l rest : List Oper} {e : Env} {Rs Rs' F G : List Res} {ty : TypeId}
/-- what a break leaves; no other exit is there -/
def onlyExit {α : Type} (id : Nat) (S : α → List Res) : Code → α → List Res
  | .exit i, x => if i = id then S x else falseR
  | _, _ => falseR
theorem onlyExit_eq {α : Type} (id : Nat) (S : α → List Res) (x : α) : onlyExit id S (.exit id) x = S x := by simp [onlyExit]
theorem sc_falseR {c : Code} {A : List Res} : SC P Q n w0 c e (A ++ falseR) := by
  intro w hw
  obtain ⟨_, z, _, hs⟩ := hw
  exfalso
  have : ∀ (B : List Res) (h : Hp), sepL (B ++ falseR) h → False := by
    intro B
    induction B with
    | nil => rintro h ⟨x, y, _, _, hf, _⟩; exact hf
    | cons q B ih => rintro h ⟨x, y, _, _, _, hr⟩; exact ih y hr
  exact this _ _ hs
/-- 'for x := range g { body }' in a block that a break leaves; behind it the resources are 'T' either way -/
theorem sc_rangeFuncX {α : Type} {g : Operand} {p id : Nat} {assign body : Code} {f : FuncId} {cs : List Value} {ks : List Nat} {rs rs2 : List HProp} {enc : α → Value} {Nx : List α → α → Prop} {Dn : List α → Prop}
    (it : IterC2 P f cs ks rs rs2 enc Nx Dn) (hq : Q.r = none) (St Sx : List α → List Res) (R : List Res) [hg : Ev n e g (.func (.func f) #[] cs.toArray)] [hb : Body P f] [hsp : Split Rs ks rs F]
    (h0 : Ent F (St []))
    (round : ∀ w0 lp rc F' pre x, Nx pre x → SC P (Cont.rAssign P lp body (Cont.rEnd P lp rc (St (pre ++ [x])) (fun c => onlyExit id Sx c (pre ++ [x])) w0 F')) n w0 assign ((p, enc x) :: e) ((lp, LoopR lp rc .ready none) :: (St pre ++ F')))
    (hD : ∀ xs, Dn xs → Ent (ks.zip rs2 ++ St xs) R)
    (hS : ∀ pre x, Nx pre x → Ent (ks.zip rs2 ++ Sx (pre ++ [x])) R)
    (fin : ∀ r, SQ (Q.mark r) n w0 .normal e ((r, defers0 r) :: R)) :
    SC P (Q.block id) n w0 (.rangeFunc g #[p] assign body) e Rs := by
  refine sc_rangeFunc2 it hq St (onlyExit id Sx) h0 round (fun r xs h => ?_) (fun r c pre x h => ?_)
  · exact sq_block_m (fun w hw => fin r w (hw.ent (Ent.cons _ (hD xs h))))
  · cases c with
    | exit i =>
      by_cases hi : i = id
      · subst hi
        refine sc_exit (sq_block_exit_m (fun w hw => fin r w (hw.ent (Ent.cons _ ?_))))
        rw [onlyExit_eq]
        exact hS pre x h
      · have : onlyExit id Sx (.exit i) (pre ++ [x]) = falseR := by simp [onlyExit, hi]
        rw [this]
        exact sc_falseR (A := (r, defers0 r) :: ks.zip rs2)
    | _ => exact sc_falseR (A := (r, defers0 r) :: ks.zip rs2)
/-- append(nil, nothing...) -/
theorem sw_append_00 {d : Nat} {t el : TypeId} {nb sz : Nat} {x y : Operand} {z : Value} {c' : Nat} {a : Option Addr} {pos : String} {after : Array Edge}
    [hx : Ev n e x (.slice none 0 0)] [hy : Ev n e y (.slice a 0 c')] [he : Elem P t el sz nb z]
    (k : SW P ops Q n w0 rest ((d, .slice none 0 0) :: e) Rs) :
    SW P ops Q n w0 ({ dst := some d, op := .call { callee := .builtin .append, args := [x, y].toArray, argTypes := [t, t].toArray }, type := ty, pos := pos, after := after, guard := none } :: rest) e Rs := by
  intro w hw
  obtain ⟨i0, hi, hz0, hz1, hz2⟩ := info_parts he.info
  have hf : ∀ ad : Addr, (Builtin.firstCells i0.size 0 (.slice (some ad) 0 c')).run P w = .ok #[] w := fun ad => run_firstCells_some w i0.size 0 ad 0 c' [] (by simp) (by simp)
  have hr : (Builtin.append_ #[t, t] ty #[.slice none 0 0, .slice a 0 c']).run P w = .ok (.slice none 0 0) w := by
    cases a with
    | none => simp [Builtin.append_, run_underlying he.und, sizeOf, typeInfo, hi, Builtin.lenOf, run_firstCells_none]
    | some ad => simp [Builtin.append_, run_underlying he.und, sizeOf, typeInfo, hi, Builtin.lenOf, hf]
  refine wpM_value rfl (run_call_append rfl w hr) ?_
  rw [actM_put]
  exact k w hw
end
end Go.Gsl

namespace Go.Gsl
set_option linter.unusedVariables false
section
variable {P : Program} {ops : List Oper} {Q : Cont} {n : Nat} {w0 : World} {l rest : List Oper} {e : Env} {Rs Rs' F G : List Res} {fuel : Nat} {listed : Array Bool}
theorem sh_two {oi oj : Oper} (i j : Nat) (hi : ops[i]? = some oi) (hj : ops[j]? = some oj) (hr : Region.ready .any ops.toArray listed = [i, j]) (hq : noDefer ops = true) [hG : Sub Rs G]
    (k1 : SW P ops (Q.drawsR P ops w0 G fuel (listed.setIfInBounds i true)) n w0 [oi] e Rs) (k2 : SW P ops (Q.drawsR P ops w0 G fuel (listed.setIfInBounds j true)) n w0 [oj] e Rs) : SH P ops Q n w0 G (fuel + 1) listed e Rs := by
  have one : ∀ {o : Oper} (i : Nat) (hi : ops[i]? = some o) (k : SW P ops (Q.drawsR P ops w0 G fuel (listed.setIfInBounds i true)) n w0 [o] e Rs) (w : World) (hw : Sat w0 w Rs),
      wpOpIn (fz Q.r) 0 P ops.toArray Q.q i (wpAnyR Q.r P .any ops.toArray (fun w => Sat w0 w G) Q.q fuel (listed.setIfInBounds i true)) (actM Q.m n e) w := by
    intro o i hi k w hw
    have hi' : ops.toArray[i]? = some o := by simpa using hi
    have := k w hw
    unfold wpOpIn
    simp only [hi']
    rw [show (Q.drawsR P ops w0 G fuel (listed.setIfInBounds i true)).r = Q.r from rfl, show (Q.drawsR P ops w0 G fuel (listed.setIfInBounds i true)).m = Q.m from rfl] at this
    unfold wpListIn at this
    split
    · rename_i hw'
      rw [if_pos hw'] at this
      obtain ⟨h1, h⟩ := this
      refine ⟨h1, ?_⟩
      unfold Oper.uponIn at h ⊢
      exact h
    · rename_i hw'
      rw [if_neg hw'] at this
      exact this
  refine ⟨hq, fun w hw => ⟨hw.ent hG.ent, fun h => (by rw [h] at hr; cases hr), fun m hm => ?_⟩⟩
  rw [hr] at hm
  rcases List.mem_cons.1 hm with rfl | hm
  · exact one _ hi k1 w hw
  · rw [List.mem_singleton.1 hm]
    exact one _ hj k2 w hw
/-- what lies between two pieces of code, whichever way the first one ends -/
def Cont.join {α : Type} (Q : Cont) (n : Nat) (w0 : World) (inv : α → Env) (R : α → List Res) : Cont :=
  ⟨Q.r, Q.m, Exit.then (fun a' w' => ∃ x e', a' = actM Q.m n (inv x ++ e') ∧ Sat w0 w' (R x)) Q.q⟩
theorem sc_join {α : Type} {x y : Code} (inv : α → Env) (R : α → List Res) (h1 : SC P (Q.join n w0 inv R) n w0 x e Rs) (h2 : ∀ a e', SC P Q n w0 y (inv a ++ e') (R a)) : SC P Q n w0 (.seq x y) e Rs := by
  refine sc_seq (fun w hw => Code.wpIn_mono ?_ (h1 w hw))
  intro x a w1 h
  cases x with
  | normal =>
    obtain ⟨b, e', rfl, hs⟩ := h
    exact h2 b e' w1 hs
  | _ => exact h
theorem sq_join {α : Type} {inv : α → Env} {R : α → List Res} (x : α) (hs : says e (inv x)) (hR : Ent Rs (R x)) : SQ (Q.join n w0 inv R) n w0 .normal e Rs := fun _ hw => ⟨x, e, actM_says hs, hw.ent hR⟩
theorem sq_join_ret {α : Type} {inv : α → Env} {R : α → List Res} (h : SQ Q n w0 .ret e Rs) : SQ (Q.join n w0 inv R) n w0 .ret e Rs := fun w hw => h w hw
theorem sq_join_exit {α : Type} {inv : α → Env} {R : α → List Res} {id : Nat} (h : SQ Q n w0 (.exit id) e Rs) : SQ (Q.join n w0 inv R) n w0 (.exit id) e Rs := fun w hw => h w hw
theorem Calm.join {α : Type} {inv : α → Env} {R : α → List Res} (h : Calm Q) : Calm (Q.join n w0 inv R) := fun c a d v w x => h c a d v w x
end
end Go.Gsl

namespace Go.Gsl
set_option linter.unusedVariables false

/-- an operation of a listing: its number, whether it has an effect -/
structure LI where
  i : Nat
  eff : Bool
  o : Oper
/-- each operation without an effect may be drawn first from here on; where one with an effect stands, no other may come -/
def linOk (ops : Array Oper) : Array Bool → List (Nat × Bool) → Bool
  | listed, [] => (Region.ready .any ops listed).isEmpty
  | listed, (i, false) :: r => Region.free .any ops listed i && (Region.ready .any ops listed).contains i && linOk ops (listed.setIfInBounds i true) r
  | listed, (i, true) :: r => (match Region.ready .any ops listed with
    | [j] => Nat.beq j i
    | _ => false) && linOk ops (listed.setIfInBounds i true) r
def LinP (P : Program) (ops : List Oper) (Q : Cont) (w0 : World) (G : List Res) (its : List LI) (a : Act) (w : World) : Prop :=
  Calm Q → noDefer ops = true → Region.noSelect ops.toArray = true → (∀ x ∈ its, ops[x.i]? = some x.o) → ∀ listed, linOk ops.toArray listed (its.map fun x => (x.i, x.eff)) = true →
    wpAnyR Q.r P .any ops.toArray (fun w => Sat w0 w G) Q.q its.length listed a w
def SL (P : Program) (ops : List Oper) (Q : Cont) (n : Nat) (w0 : World) (G : List Res) (its : List LI) (e : Env) (Rs : List Res) : Prop :=
  ∀ w, Sat w0 w Rs → LinP P ops Q w0 G its (actM Q.m n e) w
/-- the listing's rest -/
def Cont.lin (P : Program) (ops : List Oper) (w0 : World) (G : List Res) (its : List LI) (Q : Cont) : Cont :=
  ⟨Q.r, Q.m, Exit.then (LinP P ops Q w0 G its) Q.q⟩
/-- the operations by their numbers -/
class NthO (l : List Oper) (i : Nat) (o : outParam Oper) : Prop where out : l[i]? = some o
instance NthO.here (o : Oper) (l : List Oper) : NthO (o :: l) 0 o := ⟨rfl⟩
instance NthO.there (p o : Oper) (l : List Oper) (i : Nat) [h : NthO l i o] : NthO (p :: l) (i + 1) o := ⟨by rw [List.getElem?_cons_succ]; exact h.out⟩
instance (priority := 2000) NthO.there8 (p0 p1 p2 p3 p4 p5 p6 p7 o : Oper) (l : List Oper) (i : Nat) [h : NthO l i o] : NthO (p0 :: p1 :: p2 :: p3 :: p4 :: p5 :: p6 :: p7 :: l) (i + 8) o := ⟨by simpa using h.out⟩
structure Items (l : List Oper) (is : List (Nat × Bool)) (its : List LI) : Prop where
  get : ∀ x ∈ its, l[x.i]? = some x.o
  ids : (its.map fun x => (x.i, x.eff)) = is
theorem ll0 {l : List Oper} : Items l [] [] := ⟨fun _ h => (by cases h), rfl⟩
theorem Items.cons {l : List Oper} {i : Nat} {b : Bool} {is : List (Nat × Bool)} {o : Oper} {its : List LI} (h : l[i]? = some o) (h2 : Items l is its) : Items l ((i, b) :: is) (⟨i, b, o⟩ :: its) :=
  ⟨fun x hx => (by
    rcases List.mem_cons.1 hx with rfl | hx
    · exact h
    · exact h2.get x hx), by rw [List.map_cons, h2.ids]⟩
/-- without an effect -/
theorem llp {l : List Oper} (i : Nat) {is : List (Nat × Bool)} {o : Oper} {its : List LI} [h : NthO l i o] (h2 : Items l is its) : Items l ((i, false) :: is) (⟨i, false, o⟩ :: its) := .cons h.out h2
/-- with one -/
theorem lle {l : List Oper} (i : Nat) {is : List (Nat × Bool)} {o : Oper} {its : List LI} [h : NthO l i o] (h2 : Items l is its) : Items l ((i, true) :: is) (⟨i, true, o⟩ :: its) := .cons h.out h2

section
variable {P : Program} {ops : List Oper} {Q : Cont} {n : Nat} {w0 : World} {l rest : List Oper} {e : Env} {Rs Rs' F G : List Res} {its : List LI} {i : Nat}

/-- the calm ways on, found by their form -/
class CalmC (Q : Cont) : Prop where out : Calm Q
instance CalmC.post {fn : Func} {R : Value → List Res → Prop} : CalmC (Post P fn w0 R) := ⟨calm_post⟩
instance CalmC.then {y : Code} [h : CalmC Q] : CalmC (Q.next P y) := ⟨Calm.then h.out⟩
instance CalmC.block {id : Nat} [h : CalmC Q] : CalmC (Q.block id) := ⟨Calm.block h.out⟩
instance CalmC.round {α : Type} {inv : α → Env} {R : α → List Res} {m : α → Nat} {x : α} [h : CalmC Q] : CalmC (Q.round n w0 inv R m x) := ⟨Calm.round h.out⟩
instance CalmC.mark {r : Nat} [h : CalmC Q] : CalmC (Q.mark r) := ⟨Calm.mark h.out⟩
instance CalmC.join {α : Type} {inv : α → Env} {R : α → List Res} [h : CalmC Q] : CalmC (Q.join n w0 inv R) := ⟨Calm.join h.out⟩
instance CalmC.rEnd {lp : Nat} {rc : Loop} {S : List Res} {Sx : Code → List Res} {F' : List Res} : CalmC (Cont.rEnd P lp rc S Sx w0 F') := ⟨Calm.rEnd⟩
def linAll (l : List Oper) (is : List (Nat × Bool)) : Bool := noDefer l && Region.noSelect l.toArray && linOk l.toArray (Array.replicate l.length false) is
theorem sc_lin {id : Nat} {is : List (Nat × Bool)} {its : List LI} (G : List Res) (hi : Items l is its) [hc : CalmC Q] (hm : P.follows .mixedOrders = true) (hl : l.length = its.length)
    (hk : linAll l is = true) (h : SL P l Q n w0 G its e Rs) : SC P Q n w0 (.region id l.toArray true) e Rs := by
  simp only [linAll, Bool.and_eq_true] at hk
  obtain ⟨⟨hd, hs⟩, hk⟩ := hk
  refine sc_drawH (m := its.length) G hm hl ⟨hd, fun w hw => h w hw hc.out hd hs hi.get _ ?_⟩
  rw [hi.ids, ← hl]; exact hk

theorem sl_take {d : Nat} {op : Op} {ty : TypeId} {pos : String} {after : Array Edge} {v : Value} [h : RunOp P n w0 e G op ty v]
    (k : SL P ops Q n w0 G its ((d, v) :: e) Rs) : SL P ops Q n w0 G (⟨i, false, { dst := some d, op := op, type := ty, pos := pos, after := after, guard := none }⟩ :: its) e Rs := by
  intro w hw hc hd hs hg listed hk
  have hi := hg _ List.mem_cons_self
  have hi' : ops.toArray[i]? = some { dst := some d, op := op, type := ty, pos := pos, after := after, guard := none } := by simpa using hi
  simp only [List.map_cons, linOk, Bool.and_eq_true] at hk
  refine wpAnyR_first hi' (Region.noSelect_spec hs) (noDefer_spec hd) (fun c a w => hc c a _ v w) its.length listed _ w (Region.free_spec hi' hk.1.1) (by simpa using hk.1.2) (.inl ⟨by simp [Region.wanted], fun w hw => h.run _ rfl rfl w hw⟩) ?_
  rw [actM_put]; exact k w hw hc hd hs (fun x hx => hg x (List.mem_cons_of_mem _ hx)) _ hk.2
theorem sl_take_as {d : Nat} {op : Op} {ty : TypeId} {pos : String} {after : Array Edge} {v v' : Value} [h : RunOp P n w0 e G op ty v] (hv : v = v')
    (k : SL P ops Q n w0 G its ((d, v') :: e) Rs) : SL P ops Q n w0 G (⟨i, false, { dst := some d, op := op, type := ty, pos := pos, after := after, guard := none }⟩ :: its) e Rs := by
  subst hv; exact sl_take k
theorem sl_in {d : Nat} {op : Op} {ty : TypeId} {pos : String} {after : Array Edge} {k : IntKind} {c : Int} {ok : Prop} [h : PureOp P n e op ty (.int k (k.wrap c))] [hk : InK k c ok] (hc : ok)
    (q : SL P ops Q n w0 G its ((d, .int k c) :: e) Rs) : SL P ops Q n w0 G (⟨i, false, { dst := some d, op := op, type := ty, pos := pos, after := after, guard := none }⟩ :: its) e Rs :=
  sl_take_as (v := .int k (k.wrap c)) (by rw [hk.out hc]) q
theorem sl_skip {d : Nat} {op : Op} {ty : TypeId} {pos : String} {after : Array Edge} {j t : Nat} {b c : Bool} [hd : DstAt ops j t] [hl : Lk e t (.bool c)] [hn : Lt t n] [hb : BNe c b]
    (k : SL P ops Q n w0 G its ((d, undef) :: e) Rs) : SL P ops Q n w0 G (⟨i, false, { dst := some d, op := op, type := ty, pos := pos, after := after, guard := some (j, b) }⟩ :: its) e Rs := by
  intro w hw hc hd hs hg listed hk
  have hi := hg _ List.mem_cons_self
  have hi' : ops.toArray[i]? = some { dst := some d, op := op, type := ty, pos := pos, after := after, guard := some (j, b) } := by simpa using hi
  simp only [List.map_cons, linOk, Bool.and_eq_true] at hk
  refine wpAnyR_first (v := undef) hi' (Region.noSelect_spec hs) (noDefer_spec hd) (fun c a w => hc c a _ undef w) its.length listed _ w (Region.free_spec hi' hk.1.1) (by simpa using hk.1.2) (.inr ⟨?_, rfl⟩) ?_
  · simp only [Region.wanted, actM_tmps, yielded_of (n := n) (e := e) (ops := ops) (j := j) (t := t) (b := c)]
    simpa using hb.out
  · rw [actM_put]; exact k w hw hc hd hs (fun x hx => hg x (List.mem_cons_of_mem _ hx)) _ hk.2
theorem sl_skip_u {d : Nat} {op : Op} {ty : TypeId} {pos : String} {after : Array Edge} {j t : Nat} {b : Bool} [hd : DstAt ops j t] [hl : Lk e t undef] [hn : Lt t n]
    (k : SL P ops Q n w0 G its ((d, undef) :: e) Rs) : SL P ops Q n w0 G (⟨i, false, { dst := some d, op := op, type := ty, pos := pos, after := after, guard := some (j, b) }⟩ :: its) e Rs := by
  intro w hw hc hd hs hg listed hk
  have hi := hg _ List.mem_cons_self
  have hi' : ops.toArray[i]? = some { dst := some d, op := op, type := ty, pos := pos, after := after, guard := some (j, b) } := by simpa using hi
  simp only [List.map_cons, linOk, Bool.and_eq_true] at hk
  refine wpAnyR_first (v := undef) hi' (Region.noSelect_spec hs) (noDefer_spec hd) (fun c a w => hc c a _ undef w) its.length listed _ w (Region.free_spec hi' hk.1.1) (by simpa using hk.1.2) (.inr ⟨?_, rfl⟩) ?_
  · simp [Region.wanted, actM_tmps, yielded_u (n := n) (e := e) (ops := ops) (j := j) (t := t)]
  · rw [actM_put]; exact k w hw hc hd hs (fun x hx => hg x (List.mem_cons_of_mem _ hx)) _ hk.2
theorem sl_take_g {d : Nat} {op : Op} {ty : TypeId} {pos : String} {after : Array Edge} {j t : Nat} {b : Bool} {v : Value} [hd : DstAt ops j t] [hl : Lk e t (.bool b)] [hn : Lt t n] [h : RunOp P n w0 e G op ty v]
    (k : SL P ops Q n w0 G its ((d, v) :: e) Rs) : SL P ops Q n w0 G (⟨i, false, { dst := some d, op := op, type := ty, pos := pos, after := after, guard := some (j, b) }⟩ :: its) e Rs := by
  intro w hw hc hd hs hg listed hk
  have hi := hg _ List.mem_cons_self
  have hi' : ops.toArray[i]? = some { dst := some d, op := op, type := ty, pos := pos, after := after, guard := some (j, b) } := by simpa using hi
  simp only [List.map_cons, linOk, Bool.and_eq_true] at hk
  refine wpAnyR_first (v := v) hi' (Region.noSelect_spec hs) (noDefer_spec hd) (fun c a w => hc c a _ v w) its.length listed _ w (Region.free_spec hi' hk.1.1) (by simpa using hk.1.2) (.inl ⟨?_, fun w hw => h.run _ rfl rfl w hw⟩) ?_
  · simp only [Region.wanted, actM_tmps, yielded_of (n := n) (e := e) (ops := ops) (j := j) (t := t) (b := b)]
    simp
  · rw [actM_put]; exact k w hw hc hd hs (fun x hx => hg x (List.mem_cons_of_mem _ hx)) _ hk.2
theorem sl_take_g_as {d : Nat} {op : Op} {ty : TypeId} {pos : String} {after : Array Edge} {j t : Nat} {b : Bool} {v v' : Value} [hd : DstAt ops j t] [hl : Lk e t (.bool b)] [hn : Lt t n] [h : RunOp P n w0 e G op ty v] (hv : v = v')
    (k : SL P ops Q n w0 G its ((d, v') :: e) Rs) : SL P ops Q n w0 G (⟨i, false, { dst := some d, op := op, type := ty, pos := pos, after := after, guard := some (j, b) }⟩ :: its) e Rs := by
  subst hv; exact sl_take_g (j := j) (t := t) (b := b) k
theorem sl_in_g {d : Nat} {op : Op} {ty : TypeId} {pos : String} {after : Array Edge} {j t : Nat} {b : Bool} {k : IntKind} {c : Int} {ok : Prop} [hd : DstAt ops j t] [hl : Lk e t (.bool b)] [hn : Lt t n] [h : PureOp P n e op ty (.int k (k.wrap c))] [hk : InK k c ok] (hc : ok)
    (q : SL P ops Q n w0 G its ((d, .int k c) :: e) Rs) : SL P ops Q n w0 G (⟨i, false, { dst := some d, op := op, type := ty, pos := pos, after := after, guard := some (j, b) }⟩ :: its) e Rs :=
  sl_take_g_as (j := j) (t := t) (b := b) (v := .int k (k.wrap c)) (by rw [hk.out hc]) q
/-- A value that is not decided yet, both ways. -/
theorem sl_split {c : Bool} {p : Prop} (t : Nat) [hl : Lk e t (.bool c)] [hp : BP c p] (k1 : p → SL P ops Q n w0 G its ((t, .bool true) :: e) Rs) (k2 : ¬ p → SL P ops Q n w0 G its ((t, .bool false) :: e) Rs) : SL P ops Q n w0 G its e Rs := by
  cases c with
  | true => intro w hw; rw [actM_says (e := e) (l := [(t, .bool true)]) ⟨hl.out, trivial⟩]; exact k1 (hp.out.1 rfl) w hw
  | false => intro w hw; rw [actM_says (e := e) (l := [(t, .bool false)]) ⟨hl.out, trivial⟩]; exact k2 (fun h => by have := hp.out.2 h; cases this) w hw
/-- one with an effect -/
theorem sl_eff {o : Oper} [hG : Sub Rs G] (k : SW P ops (Q.lin P ops w0 G its) n w0 [o] e Rs) : SL P ops Q n w0 G (⟨i, true, o⟩ :: its) e Rs := by
  intro w hw hc hd hs hg listed hk
  have hi := hg _ List.mem_cons_self
  have hi' : ops.toArray[i]? = some o := by simpa using hi
  simp only [List.map_cons, linOk, Bool.and_eq_true] at hk
  obtain ⟨hr0, hk⟩ := hk
  have hr : Region.ready .any ops.toArray listed = [i] := by
    split at hr0
    · rename_i j hj; rw [hj, Nat.eq_of_beq_eq_true hr0]
    · cases hr0
  refine ⟨hw.ent hG.ent, fun h => (by rw [h] at hr; cases hr), fun j hj => ?_⟩
  rw [hr, List.mem_singleton] at hj
  subst hj
  have hx : wpOpIn (fz Q.r) 0 P ops.toArray Q.q j (LinP P ops Q w0 G its) (actM Q.m n e) w := by
    have := k w hw
    unfold wpOpIn
    simp only [hi']
    rw [show (Q.lin P ops w0 G its).r = Q.r from rfl, show (Q.lin P ops w0 G its).m = Q.m from rfl] at this
    unfold wpListIn at this
    split
    · rename_i hw'
      rw [if_pos hw'] at this
      obtain ⟨h1, h⟩ := this
      refine ⟨h1, ?_⟩
      unfold Oper.uponIn at h ⊢
      exact h
    · rename_i hw'
      rw [if_neg hw'] at this
      exact this
  exact wpOpIn_mono (fun a' w' h' => h' hc hd hs (fun x hx => hg x (List.mem_cons_of_mem _ hx)) _ hk) hx
theorem sl_back (h : SL P ops Q n w0 G its e Rs) : SQ (Q.lin P ops w0 G its) n w0 .normal e Rs := fun w hw => h w hw
theorem sl_done [hG : Sub Rs G] (h : SQ Q n w0 .normal e Rs) : SL P ops Q n w0 G [] e Rs := by
  intro w hw hc hd hs hg listed hk
  exact ⟨hw.ent hG.ent, by simpa [linOk] using hk, h w hw⟩

/-- one step of a listing, found by its form -/
class Go1L (G : Prop) (H : outParam Prop) : Prop where out : H → G
theorem go1l {G H : Prop} [h : Go1L G H] (k : H) : G := h.out k
instance Go1L.ltake {d : Nat} {op : Op} {ty : TypeId} {pos : String} {after : Array Edge} {v : Value} [h : RunOp P n w0 e G op ty v] : Go1L (SL P ops Q n w0 G (⟨i, false, { dst := some d, op := op, type := ty, pos := pos, after := after, guard := none }⟩ :: its) e Rs) (SL P ops Q n w0 G its ((d, v) :: e) Rs) := ⟨sl_take⟩
instance Go1L.lskip {d : Nat} {op : Op} {ty : TypeId} {pos : String} {after : Array Edge} {j t : Nat} {b c : Bool} [hd : DstAt ops j t] [hl : Lk e t (.bool c)] [hn : Lt t n] [hb : BNe c b] :
    Go1L (SL P ops Q n w0 G (⟨i, false, { dst := some d, op := op, type := ty, pos := pos, after := after, guard := some (j, b) }⟩ :: its) e Rs) (SL P ops Q n w0 G its ((d, undef) :: e) Rs) := ⟨sl_skip⟩
instance Go1L.lskip_u {d : Nat} {op : Op} {ty : TypeId} {pos : String} {after : Array Edge} {j t : Nat} {b : Bool} [hd : DstAt ops j t] [hl : Lk e t undef] [hn : Lt t n] :
    Go1L (SL P ops Q n w0 G (⟨i, false, { dst := some d, op := op, type := ty, pos := pos, after := after, guard := some (j, b) }⟩ :: its) e Rs) (SL P ops Q n w0 G its ((d, undef) :: e) Rs) := ⟨sl_skip_u⟩
instance Go1L.ltake_g {d : Nat} {op : Op} {ty : TypeId} {pos : String} {after : Array Edge} {j t : Nat} {b : Bool} {v : Value} [hd : DstAt ops j t] [hl : Lk e t (.bool b)] [hn : Lt t n] [h : RunOp P n w0 e G op ty v] :
    Go1L (SL P ops Q n w0 G (⟨i, false, { dst := some d, op := op, type := ty, pos := pos, after := after, guard := some (j, b) }⟩ :: its) e Rs) (SL P ops Q n w0 G its ((d, v) :: e) Rs) := ⟨sl_take_g⟩
end
end Go.Gsl

namespace Go.Gsl
set_option linter.unusedVariables false
section
variable {P : Program} {ops : List Oper} {Q : Cont} {n : Nat} {w0 : World} {rest : List Oper} {e : Env} {Rs F : List Res} {ty : TypeId}
/-- x.f, x being no variable: a field of one cell -/
theorem runop_field {s : TypeId} {x : Operand} {f : Nat} {fs : Array Field} {vs : List Value} {v : Value} (off t : Nat) [hx : Ev n e x (.agg vs.toArray)] [hu : Und P s (.struct fs)] (hf : (fs[f]?).map (fun g => (g.offset, g.type)) = some (off, t)) [hn : NonAgg P t] [hv : TupAt vs off v] :
    RunOp P n w0 e Rs (.field s x f) ty v := by
  obtain ⟨g, hg, he⟩ := Option.map_eq_some_iff.1 hf
  simp only [Prod.mk.injEq] at he
  obtain ⟨rfl, rfl⟩ := he
  refine @RunOp.pure P n w0 e Rs _ _ _ ⟨fun o h1 _ w => ?_⟩
  unfold execOp; rw [h1]
  have h2 : vs[g.offset]? = some v := hv.out
  simp [Instr.field, hx.out, run_und (t := s), hg, asAgg, part, hn.out, h2]
/-- a field that is a struct itself -/
theorem runop_fieldA {s : TypeId} {x : Operand} {f : Nat} {fs : Array Field} {vs : List Value} {sz : Nat} (us : List Value) (off t : Nat) [hx : Ev n e x (.agg vs.toArray)] [hu : Und P s (.struct fs)] (hf : (fs[f]?).map (fun g => (g.offset, g.type)) = some (off, t)) [ha : IsAggT P t] [hs : SizeOf P t sz] (hv : (vs.drop off).take sz = us) :
    RunOp P n w0 e Rs (.field s x f) ty (.agg us.toArray) := by
  obtain ⟨g, hg, he⟩ := Option.map_eq_some_iff.1 hf
  simp only [Prod.mk.injEq] at he
  obtain ⟨rfl, rfl⟩ := he
  refine @RunOp.pure P n w0 e Rs _ _ _ ⟨fun o h1 _ w => ?_⟩
  unfold execOp; rw [h1]
  simp [Instr.field, hx.out, run_und (t := s), hg, asAgg, part, ha.out, hs.out, ← hv]
/-- a difference, said otherwise -/
theorem runop_subI {x y : Operand} {a b c : Int} {t t' : TypeId} (hc : a - b = c) [hx : Ev n e x (.int .i64 a)] [hy : Ev n e y (.int .i64 b)] (h : -9223372036854775808 ≤ c ∧ c ≤ 9223372036854775807 := by omega) : RunOp P n w0 e Rs (.binOp .sub t x y t') ty (.int .i64 c) := by
  have h1 : RunOp P n w0 e Rs (.binOp .sub t x y t') ty (.int .i64 (IntKind.i64.wrap (a - b))) := inferInstance
  rw [hc, IntWalk.i64_in _ h] at h1
  exact h1
/-- s[K:K+N] -/
theorem runop_sub {t el : TypeId} {nb : Nat} {x : Operand} {lo hi mx : Option Operand} {vl vh vm : Option Value} {b len cap : Nat} {li hi' mi : Int} {ok : Prop} {z : Value} (K N : Nat)
    [hx : Ev n e x (.slice (some ⟨b, 0, none⟩) len cap)] [h1 : EvO n e lo vl] [h2 : EvO n e hi vh] [h3 : EvO n e mx vm] [he : Elem P t el 1 nb z] [hb : Bounds len cap vl vh vm li hi' mi ok] (hok : ok) (hl : li = K ∧ hi' = K + N ∧ mi = cap ∧ K < cap) :
    RunOp P n w0 e Rs (.slice t x lo hi mx) ty (.slice (some ⟨b, K, none⟩) N (cap - K)) := by
  have h4 := runop_slice (P := P) (n := n) (w0 := w0) (e := e) (Rs := Rs) (ty := ty) (t := t) (x := x) (lo := lo) (hi := hi) (mx := mx) (hx := hx) (hb := hb) K (K + N) cap K hok ⟨hl.1, by omega, hl.2.2.1, by rw [if_neg (by omega), Nat.zero_add]⟩
  rwa [Nat.add_sub_cancel_left] at h4
end
end Go.Gsl

namespace Go.Gsl
set_option linter.unusedVariables false
theorem act_round2 {m : List Deferred} {n : Nat} {e : Env} {p q : Nat} {v u : Value} : ({ tmps := ((#[p, q] : Array Tmp).zip #[v, u]).foldl (fun tmps (t, a) => tmps.setIfInBounds t a) (actM m n e).tmps, defers := [] } : Act) = actM [] n ((q, u) :: (p, v) :: e) := by
  have h1 := actM_put [] n e p v
  have h2 := actM_put [] n ((p, v) :: e) q u
  simp only [actM, Act.put] at h1 h2 ⊢
  simp only [← h2]
  simp only [Act.mk.injEq] at h1
  rw [← h1.1]
  simp
/-- The contract of an iterator that leaves 'rs2' of 'rs'. -/
def IterS (P : Program) (f : FuncId) (cs : List Value) (ks : List Nat) (rs rs2 : List HProp) {α : Type} (enc : α → Value × Value) (X : α → HProp) (Nx : List α → α → Prop) (Dn : List α → Prop) : Prop :=
  ∀ (l : Nat) (J Jx : List α → HProp),
    (∀ pre x, Nx pre x → SpecY P l [(enc x).1, (enc x).2] [l, 7006] [J pre, X x] fun F v Rs' => (v = .bool true ∧ Rs' = (l, J (pre ++ [x])) :: F) ∨ (v = .bool false ∧ Rs' = (l, Jx (pre ++ [x])) :: F)) →
    Spec P f (.func (.yield l) #[] #[] :: cs) (l :: ks) (J [] :: rs) fun F v Rs' => v = .tuple #[] ∧
      ((∃ xs, Dn xs ∧ Rs' = (l, J xs) :: (ks.zip rs2 ++ F)) ∨ (∃ pre x, Nx pre x ∧ Rs' = (l, Jx (pre ++ [x])) :: (ks.zip rs2 ++ F)))
section
variable {P : Program} {ops : List Oper} {Q : Cont} {n : Nat} {w0 : World} {l rest : List Oper} {e : Env} {Rs Rs' F G : List Res} {ty : TypeId}
/-- 'for x := range g { body }', at the outermost. -/
theorem sc_rangeFuncS {α : Type} {g : Operand} {p q : Nat} {assign body : Code} {f : FuncId} {cs : List Value} {ks : List Nat} {rs rs2 : List HProp} {enc : α → Value × Value} {X : α → HProp} {Nx : List α → α → Prop} {Dn : List α → Prop}
    (it : IterS P f cs ks rs rs2 enc X Nx Dn) (hq : Q.r = none) (St : List α → List Res) (Sx : Code → List α → List Res) [hg : Ev n e g (.func (.func f) #[] cs.toArray)] [hb : Body P f] [hsp : Split Rs ks rs F]
    (h0 : Ent F (St []))
    (round : ∀ w0 lp rc F' pre x, Nx pre x → SC P (Cont.rAssign P lp body (Cont.rEnd P lp rc (St (pre ++ [x])) (fun c => Sx c (pre ++ [x])) w0 F')) n w0 assign ((q, (enc x).2) :: (p, (enc x).1) :: e) ((lp, LoopR lp rc .ready none) :: (7006, X x) :: (St pre ++ F')))
    (done : ∀ r xs, Dn xs → SQ (Q.mark r) n w0 .normal e ((r, defers0 r) :: (ks.zip rs2 ++ St xs)))
    (stop : ∀ r c pre x, Nx pre x → SC P (Q.mark r) n w0 c e ((r, defers0 r) :: (ks.zip rs2 ++ Sx c (pre ++ [x])))) :
    SC P Q n w0 (.rangeFunc g #[p, q] assign body) e Rs := by
  intro w hw
  rw [hq]
  refine wpIn_rangeFunc ?_
  intro fn hfn
  obtain ⟨rc, hrc⟩ : ∃ rc : Loop, rc = { state := .ready, pending := none, fn, tmps := (actM Q.m n e).tmps, params := #[p, q], assign, body, defers := w.heap.size } := ⟨_, rfl⟩
  obtain ⟨W1, hW1⟩ : ∃ W1, (w.alloc (.deferred (some []))).alloc (.loop rc) = W1 := ⟨_, rfl⟩
  have hs0 : Sat w0 w (ks.zip rs ++ F) := hw.ent hsp.ent
  have hs1 : Sat w0 (w.alloc (.deferred (some []))) ((w.heap.size, defers0 w.heap.size) :: (ks.zip rs ++ F)) := hs0.new _
  have hs2 : Sat w0 W1 ((w.heap.size + 1, pts (w.heap.size + 1) (.loop rc)) :: (w.heap.size, defers0 w.heap.size) :: (ks.zip rs ++ F)) := by
    have := hs1.new (.loop rc)
    rw [World.size_alloc] at this
    rw [← hW1]; exact this
  refine ⟨w.heap.size + 1, [{ target := .collected w.heap.size, args := #[] }], W1, { target := .fn (.func f) cs.toArray, args := #[.func (.yield (w.heap.size + 1)) #[] #[]] }, W1, f,
    #[.func (.yield (w.heap.size + 1)) #[] #[]] ++ cs.toArray, W1, ?_, ?_, fun _ _ => trivial, ?_, fun h => by simp [fz, Fence.wide] at h, ?_⟩
  · rw [← hW1, hrc]; exact run_enterLoop_outer _ _ _ _ _
  · have : (actM Q.m n e).eval g = .func (.func f) #[] cs.toArray := hg.out
    simp only [resolve, this]
    simp [Deferred.ofValue, Act.eval]
  · have h3 : #[.func (.yield (w.heap.size + 1)) #[] #[]] ++ cs.toArray = #[.func (.yield (w.heap.size + 1)) #[] #[]] ++ cs.toArray := rfl
    simp only [invoke]
    exact hb.out _ _
  · refine callsIn_fz.2 ?_
    have hspec := it (w.heap.size + 1) (fun pre => hall ((w.heap.size + 1, LoopR (w.heap.size + 1) rc .ready none) :: St pre)) (fun pre h => ∃ c, hall ((w.heap.size + 1, LoopR (w.heap.size + 1) rc .done (some c)) :: Sx c pre) h) ?_
    · have h4 : #[.func (.yield (w.heap.size + 1)) #[] #[]] ++ cs.toArray = (Value.func (.yield (w.heap.size + 1)) #[] #[] :: cs).toArray := by simp
      rw [h4]
      refine Calls.mono (hspec w0 [(w.heap.size, defers0 w.heap.size)] W1 ?_) ?_
      · show Sat w0 W1 ((w.heap.size + 1, _) :: (ks.zip rs ++ [(w.heap.size, defers0 w.heap.size)]))
        refine hs2.ent ?_
        have e1 : pts (w.heap.size + 1) (.loop rc) = LoopR (w.heap.size + 1) rc .ready none := by unfold LoopR; rw [hrc]
        rw [e1]
        refine Ent.trans (B := (w.heap.size + 1, LoopR (w.heap.size + 1) rc .ready none) :: (St [] ++ (ks.zip rs ++ [(w.heap.size, defers0 w.heap.size)]))) (Ent.cons _ ?_) (Ent.hall_close _ (_ :: _) _)
        refine Ent.trans (B := (w.heap.size, defers0 w.heap.size) :: (ks.zip rs ++ St [])) (Ent.cons _ (Ent.append (Ent.refl _) h0)) (Ent.perm ?_)
        refine (List.perm_append_comm (l₁ := [_]) (l₂ := ks.zip rs ++ St [])).trans ?_
        rw [← List.append_assoc]
        exact (List.perm_append_comm (l₁ := ks.zip rs) (l₂ := St [])).append_right _
      · rintro x w' ⟨v, Rs', rfl, ⟨rfl, hc⟩, hs'⟩
        have hperm : ∀ S : List Res, Ent (S ++ (ks.zip rs2 ++ [(w.heap.size, defers0 w.heap.size)])) ((w.heap.size, defers0 w.heap.size) :: (ks.zip rs2 ++ S)) := fun S => by
          refine Ent.perm (List.Perm.symm ?_)
          refine (List.perm_append_comm (l₁ := [_]) (l₂ := ks.zip rs2 ++ S)).trans ?_
          rw [← List.append_assoc]
          exact (List.perm_append_comm (l₁ := ks.zip rs2) (l₂ := S)).append_right _
        rcases hc with ⟨xs, hD, rfl⟩ | ⟨pre, x, hN, rfl⟩
        · have hs3 := hs'.ent (Ent.hall_open _ (_ :: _) _)
          have hb3 := hs3.get (Take.here _ _ _)
          refine ⟨none, _, run_endLoop hb3 (by simp), ?_⟩
          have hs4 := (hs3.set (Take.here _ _ _) (.loop { rc with state := .exhausted, pending := none })).ent ((Ent.drop _ _).trans (hperm (St xs)))
          exact done w.heap.size xs hD _ hs4
        · obtain ⟨c, hc⟩ := sat_ex (R := fun c => hall ((w.heap.size + 1, LoopR (w.heap.size + 1) rc .done (some c)) :: Sx c (pre ++ [x]))) hs'
          have hs3 := hc.ent (Ent.hall_open _ (_ :: _) _)
          have hb3 := hs3.get (Take.here _ _ _)
          refine ⟨some c, _, run_endLoop hb3 (by simp), ?_⟩
          have hs4 := (hs3.set (Take.here _ _ _) (.loop { rc with state := .exhausted, pending := some c })).ent ((Ent.drop _ _).trans (hperm (Sx c (pre ++ [x]))))
          have := stop w.heap.size c pre x hN _ hs4
          rw [show (Q.mark w.heap.size).r = none from hq] at this
          exact this
    · intro pre x hN w0' F' w' hs'
      have hs3 := hs'.ent (Ent.hall_open _ (_ :: _) _)
      have hb3 := hs3.get (Take.here _ _ _)
      have hy := run_yield (P := P) (args := #[(enc x).1, (enc x).2]) hb3 (by simp [hrc])
      refine ⟨fn, _, assign, body, by rw [hrc] at hy; exact hy, ?_⟩
      refine roundIn_of_wpIn (F := fz none) hfn ?_
      have hr := round w0' (w.heap.size + 1) rc F' pre x hN w' (hs3.ent (Ent.cons _ (Ent.perm List.perm_middle)))
      have ha := act_round2 (m := Q.m) (n := n) (e := e) (p := p) (q := q) (v := (enc x).1) (u := (enc x).2)
      rw [show (Cont.rAssign P (w.heap.size + 1) body (Cont.rEnd P (w.heap.size + 1) rc (St (pre ++ [x])) (fun c => Sx c (pre ++ [x])) w0' F')).m = [] from rfl, ← ha] at hr
      refine Code.wpIn_mono ?_ hr
      intro x0 a0 w1 hq1
      cases x0 with
      | normal =>
        obtain ⟨w2, hb, hbody⟩ := hq1
        refine ⟨w2, hb, Code.wpIn_mono ?_ hbody⟩
        intro e1 a1 w4 h1
        have h2 : roundPost P (w.heap.size + 1) (fun y w' => (y = .returned (.bool true) ∧ Sat w0' w' ((w.heap.size + 1, LoopR (w.heap.size + 1) rc .ready none) :: St (pre ++ [x]) ++ F')) ∨ (y = .returned (.bool false) ∧ ∃ c, Sat w0' w' ((w.heap.size + 1, LoopR (w.heap.size + 1) rc .done (some c)) :: Sx c (pre ++ [x]) ++ F'))) e1 a1 w4 := h1
        refine roundPost_mono ?_ e1 a1 w4 h2
        rintro y w3 (⟨rfl, hs⟩ | ⟨rfl, c, hs⟩)
        · exact ⟨_, _, rfl, .inl ⟨rfl, rfl⟩, hs.ent (Ent.hall_close _ (_ :: _) _)⟩
        · refine ⟨_, _, rfl, .inr ⟨rfl, rfl⟩, ?_⟩
          exact sat_ex_of (R := fun c => hall ((w.heap.size + 1, LoopR (w.heap.size + 1) rc .done (some c)) :: Sx c (pre ++ [x]))) c (hs.ent (Ent.hall_close _ (_ :: _) _))
      | _ => exact hq1.elim

/-- 'for x := range g { body }' in a block that a break leaves; behind it the resources are 'T' either way -/
theorem sc_rangeFuncXS {α : Type} {g : Operand} {p q id : Nat} {assign body : Code} {f : FuncId} {cs : List Value} {ks : List Nat} {rs rs2 : List HProp} {enc : α → Value × Value} {X : α → HProp} {Nx : List α → α → Prop} {Dn : List α → Prop}
    (it : IterS P f cs ks rs rs2 enc X Nx Dn) (hq : Q.r = none) (St Sx : List α → List Res) (R : List Res) [hg : Ev n e g (.func (.func f) #[] cs.toArray)] [hb : Body P f] [hsp : Split Rs ks rs F]
    (h0 : Ent F (St []))
    (round : ∀ w0 lp rc F' pre x, Nx pre x → SC P (Cont.rAssign P lp body (Cont.rEnd P lp rc (St (pre ++ [x])) (fun c => onlyExit id Sx c (pre ++ [x])) w0 F')) n w0 assign ((q, (enc x).2) :: (p, (enc x).1) :: e) ((lp, LoopR lp rc .ready none) :: (7006, X x) :: (St pre ++ F')))
    (hD : ∀ xs, Dn xs → Ent (ks.zip rs2 ++ St xs) R)
    (hS : ∀ pre x, Nx pre x → Ent (ks.zip rs2 ++ Sx (pre ++ [x])) R)
    (fin : ∀ r, SQ (Q.mark r) n w0 .normal e ((r, defers0 r) :: R)) :
    SC P (Q.block id) n w0 (.rangeFunc g #[p, q] assign body) e Rs := by
  refine sc_rangeFuncS it hq St (onlyExit id Sx) h0 round (fun r xs h => ?_) (fun r c pre x h => ?_)
  · exact sq_block_m (fun w hw => fin r w (hw.ent (Ent.cons _ (hD xs h))))
  · cases c with
    | exit i =>
      by_cases hi : i = id
      · subst hi
        refine sc_exit (sq_block_exit_m (fun w hw => fin r w (hw.ent (Ent.cons _ ?_))))
        rw [onlyExit_eq]
        exact hS pre x h
      · have : onlyExit id Sx (.exit i) (pre ++ [x]) = falseR := by simp [onlyExit, hi]
        rw [this]
        exact sc_falseR (A := (r, defers0 r) :: ks.zip rs2)
    | _ => exact sc_falseR (A := (r, defers0 r) :: ks.zip rs2)
end
end Go.Gsl

/- Texts: what is appended of one, their order. -/
namespace Go.Gsl
set_option linter.unusedVariables false

theorem byteCells_strB {ns : List Int} (hb : ∀ x ∈ ns, 0 ≤ x ∧ x ≤ 255) : byteCells (strB ns) = ns.map (Value.int .u8) := by
  unfold byteCells strB
  rw [strB_data]
  simp
  intro x hx
  have := hb x hx
  omega

/-- texts in order -/
def lessB : List Int → List Int → Bool
  | _, [] => false
  | [], _ :: _ => true
  | a :: x, b :: y => decide (a < b) || (decide (a = b) && lessB x y)
theorem lessB_tri : ∀ a b : List Int, (!(lessB a b || decide (a = b))) = lessB b a
  | [], [] => by simp [lessB]
  | [], _ :: _ => by simp [lessB]
  | _ :: _, [] => by simp [lessB]
  | a :: x, b :: y => by
    have h := lessB_tri x y
    unfold lessB
    by_cases h1 : a < b
    · have h2 : ¬ b < a := by omega
      have h3 : b ≠ a := by omega
      simp [h1, h2, h3]
    · by_cases h2 : b < a
      · have h3 : a ≠ b := by omega
        simp [h1, h2, h3]
      · have h3 : a = b := by omega
        subst h3
        simp only [List.cons.injEq, true_and] at h ⊢
        simpa [h1] using h
theorem lessB_irr : ∀ a : List Int, lessB a a = false
  | [] => rfl
  | a :: x => by simp [lessB, lessB_irr x]
theorem lessB_trans : ∀ a b c : List Int, lessB a b = true → lessB b c = true → lessB a c = true
  | _, _, [], _, h => by cases ‹List Int› <;> simp [lessB] at h
  | [], _, _ :: _, _, _ => rfl
  | _ :: _, [], _ :: _, h, _ => by simp [lessB] at h
  | a :: x, b :: y, c :: z, h1, h2 => by
    have ih := lessB_trans x y z
    simp only [lessB, Bool.or_eq_true, Bool.and_eq_true, decide_eq_true_eq] at h1 h2 ⊢
    rcases h1 with h1 | ⟨h1, h3⟩ <;> rcases h2 with h2 | ⟨h2, h4⟩
    · exact .inl (by omega)
    · exact .inl (by omega)
    · exact .inl (by omega)
    · exact .inr ⟨by omega, ih h3 h4⟩

theorem bytesLess_ints : ∀ {a b : List Int}, (∀ x ∈ a, 0 ≤ x ∧ x ≤ 255) → (∀ x ∈ b, 0 ≤ x ∧ x ≤ 255) → Op.bytesLess (a.map fun n => UInt8.ofNat n.toNat) (b.map fun n => UInt8.ofNat n.toNat) = lessB a b
  | [], [], _, _ => rfl
  | _ :: _, [], _, _ => rfl
  | [], _ :: _, _, _ => rfl
  | x :: a, y :: b, ha, hb => by
    have hx := ha x (by simp)
    have hy := hb y (by simp)
    have ih := bytesLess_ints (a := a) (b := b) (fun z hz => ha z (by simp [hz])) (fun z hz => hb z (by simp [hz]))
    have h1 : (UInt8.ofNat x.toNat < UInt8.ofNat y.toNat) ↔ x < y := by
      rw [UInt8.lt_iff_toNat_lt, UInt8.toNat_ofNat', UInt8.toNat_ofNat', Nat.mod_eq_of_lt (by omega), Nat.mod_eq_of_lt (by omega)]
      omega
    have h2 : (UInt8.ofNat x.toNat = UInt8.ofNat y.toNat) ↔ x = y := by
      rw [← UInt8.toNat_inj, UInt8.toNat_ofNat', UInt8.toNat_ofNat', Nat.mod_eq_of_lt (by omega), Nat.mod_eq_of_lt (by omega)]
      omega
    have h3 : (UInt8.ofNat x.toNat == UInt8.ofNat y.toNat) = decide (x = y) := by
      by_cases h : x = y
      · subst h; simp
      · rw [beq_eq_false_iff_ne.2 fun h' => h (h2.1 h'), decide_eq_false h]
    simp only [List.map_cons, Op.bytesLess, lessB, ih, h1, h3]
theorem strB_toList (a : List Int) : (strB a).toList = a.map fun n => UInt8.ofNat n.toNat := by
  rw [ba_toList]
  unfold strB
  rw [strB_data]
  simp
theorem bytesLess_strB {a b : List Int} (ha : ∀ x ∈ a, 0 ≤ x ∧ x ≤ 255) (hb : ∀ x ∈ b, 0 ≤ x ∧ x ≤ 255) : Op.bytesLess (strB a).toList (strB b).toList = lessB a b := by
  rw [strB_toList, strB_toList, bytesLess_ints ha hb]
/-- each text is some bytes -/
theorem strB_all (s : ByteArray) : ∃ ns : List Int, s = strB ns ∧ ns.length = s.size ∧ ∀ x ∈ ns, 0 ≤ x ∧ x ≤ 255 := by
  refine ⟨s.data.toList.map fun c => (c.toNat : Int), ?_, by rw [List.length_map]; rfl, ?_⟩
  · apply ba_inj
    rw [strB_toList, ba_toList, List.map_map]
    conv => lhs; rw [← List.map_id s.data.toList]
    apply List.map_congr_left
    intro c _
    simp
  · intro x hx
    obtain ⟨c, _, rfl⟩ := List.mem_map.1 hx
    have := c.toNat_lt
    omega

section
variable {P : Program} {ops : List Oper} {Q : Cont} {n : Nat} {w0 : World} {rest : List Oper} {e : Env} {Rs F : List Res} {ty : TypeId}
/-- append(b, s...), s being a text: onto a row of one's own -/
theorem sw_appendStr {d : Nat} {t tx el : TypeId} {nb : Nat} {x y : Operand} {z : Value} {b m c : Nat} {cs : List Value} (ns : List Int) {pos : String} {after : Array Edge}
    [hx : Ev n e x (.slice (some ⟨b, 0, none⟩) m c)] [hy : Ev n e y (.string (strB ns))] [hu : Und P tx .string] [he : Elem P t el 1 nb z] [hz : One z] [tk : Take Rs b (pts b (.cells cs.toArray el (0, 0))) F]
    (hb : ∀ x ∈ ns, 0 ≤ x ∧ x ≤ 255) (h : m ≤ c ∧ cs.length = c ∧ m + ns.length ≤ 9223372036854775807 ∧ (m + ns.length) * nb ≤ 140737488355328)
    (k : ∀ b' r, SW P ops Q n w0 rest ((d, .slice (some ⟨b', 0, none⟩) (m + ns.length) (m + ns.length + r.length)) :: e) ((b', pts b' (.cells (cs.take m ++ ns.map (Value.int .u8) ++ r).toArray el (0, 0))) :: F)) :
    SW P ops Q n w0 ({ dst := some d, op := .call { callee := .builtin .append, args := [x, y].toArray, argTypes := [t, tx].toArray }, type := ty, pos := pos, after := after, guard := none } :: rest) e Rs := by
  intro w hw
  obtain ⟨h2, h3, h5, h6⟩ := h
  obtain ⟨i0, hi, hz0, hz1, hz2⟩ := info_parts he.info
  have hbk := hw.get tk
  have hzs : z.cells.size = 1 := by rw [cells_one hz.out]; rfl
  have hsz : (strB ns).size = ns.length := strB_size ns
  have hs : Src P i0.size tx (.string (strB ns)) ns.length (ns.map (Value.int .u8)) w := by
    have h7 := Src.ofString (w := w) hu.out (strB ns)
    rw [hsz, byteCells_strB hb] at h7
    rw [hz1]
    exact h7
  have hlm : (ns.map (Value.int .u8)).length = ns.length := List.length_map ..
  by_cases hroom : m + ns.length ≤ c
  · have hst := run_storeCells (P := P) (b := b) (off := m) (ty' := el) (ns.map (Value.int .u8)) 0 cs w hs.one hbk (by rw [hlm]; omega)
    simp only [Nat.add_zero] at hst
    have hr : (Builtin.append_ #[t, tx] ty #[.slice (some ⟨b, 0, none⟩) m c, .string (strB ns)]).run P w = .ok (.slice (some ⟨b, 0, none⟩) (m + ns.length) c) { w with heap := w.heap.setIfInBounds b (.cells (cs.take m ++ ns.map (Value.int .u8) ++ cs.drop (m + (ns.map (Value.int .u8)).length)).toArray el (0, 0)) } := by
      have hc := hs.cells
      rw [hz1] at hc
      have hl := hs.len w
      simp [Builtin.append_, run_underlying he.und, run_underlying hu.out, sizeOf, typeInfo, hi, hl, hroom, hc, Addr.add_lit, hst, hz1]
    refine wpM_value rfl (run_call_append rfl w hr) ?_
    rw [actM_put]
    have h8 := k b (cs.drop (m + ns.length))
    have e1 : m + ns.length + (cs.drop (m + ns.length)).length = c := by rw [List.length_drop]; omega
    rw [e1] at h8
    rw [hlm]
    exact h8 _ (hw.set tk _)
  · have hold : (Builtin.firstCells i0.size m (.slice (some ⟨b, 0, none⟩) m c)).run P w.drew = .ok (cs.take m).toArray w.drew := by
      refine run_firstCells_some w.drew i0.size m ⟨b, 0, none⟩ m c (cs.take m) (by rw [hz1, Nat.mul_one, List.length_take]; omega) fun j v hj => ?_
      have : w.cell? (Addr.add ⟨b, 0, none⟩ j) = some v := by
        refine cell_row hbk ?_
        rw [Nat.zero_add]
        rw [List.getElem?_take] at hj
        split at hj
        · exact hj
        · cases hj
      simpa using this
    have hr := run_append_grow_src (P := P) w t tx ty el i0 z he.und hi hz0 (some ⟨b, 0, none⟩) m c (cs.take m) hold (.string (strB ns)) ns.length _ hs (by omega) (by omega) (growslice_fits (by omega) (by rw [hz2]; exact h6))
    refine wpM_value rfl (run_call_append rfl w hr) ?_
    rw [actM_put]
    have hge := grownCap_ge w (m + ns.length) c el
    have h8 := k w.heap.size (Builtin.zeroCells z.cells (grownCap w (m + ns.length) c el - (m + ns.length))).toList
    have e1 : m + ns.length + (Builtin.zeroCells z.cells (grownCap w (m + ns.length) c el - (m + ns.length))).toList.length = grownCap w (m + ns.length) c el := by rw [zeroCells_len _ _ hzs]; omega
    rw [e1] at h8
    have h9 := (((hw.draw (w.drawn + 1)).new (.cells ((cs.take m ++ ns.map (Value.int .u8)).toArray ++ Builtin.zeroCells z.cells (grownCap w (m + ns.length) c el - (m + ns.length))) el (0, 0))).ent (Ent.cons _ (tk.ent.trans (Ent.drop _ _))))
    have e2 : (cs.take m ++ ns.map (Value.int .u8)).toArray ++ Builtin.zeroCells z.cells (grownCap w (m + ns.length) c el - (m + ns.length)) = (cs.take m ++ ns.map (Value.int .u8) ++ (Builtin.zeroCells z.cells (grownCap w (m + ns.length) c el - (m + ns.length))).toList).toArray := by simp
    rw [e2] at h9 ⊢
    exact h8 _ h9

/-- a text's length -/
instance (priority := 2000) PureOp.slenB {x : Operand} {t : TypeId} {ns : List Int} [hx : Ev n e x (.string (strB ns))] [hu : Und P t .string] : PureOp P n e (.call { callee := .builtin .len, args := [x].toArray, argTypes := [t].toArray }) ty (.int .i64 ns.length) := by
  rw [← strB_size]
  exact PureOp.slen
theorem run_binop_str {op : BinOp} {x y : Operand} {t t' : TypeId} {a b : ByteArray} {v : Value} {o : Oper} (h1 : o.op = .binOp op t x y t') [hx : Ev n e x (.string a)] [hy : Ev n e y (.string b)] (w : World)
    (hop : op = .lss ∨ op = .leq ∨ op = .gtr ∨ op = .geq) (hr : (Op.stringOp op a b).run P w = .ok v w) : (execOp (act n e).eval o).run P w = .ok (.value v) w := by
  unfold execOp
  rw [h1]
  have hg : (eqGuard op t x y (.string a) (.string b)).run P w = .ok () w := by
    unfold eqGuard; rcases hop with rfl | rfl | rfl | rfl <;> simp
  have hb : (binOp op t (.string a) (.string b)).run P w = .ok v w := by
    rw [← hr]
    rcases hop with rfl | rfl | rfl | rfl <;> simp [binOp]
  simp [hx.out, hy.out, hg, hb]
section
variable {x y : Operand} {t t' : TypeId} {a b : List Int}
/-- two texts in order -/
theorem runop_slss (ha : ∀ x ∈ a, 0 ≤ x ∧ x ≤ 255) (hb : ∀ x ∈ b, 0 ≤ x ∧ x ≤ 255) [hx : Ev n e x (.string (strB a))] [hy : Ev n e y (.string (strB b))] : RunOp P n w0 e Rs (.binOp .lss t x y t') ty (.bool (lessB a b)) :=
  @RunOp.pure P n w0 e Rs _ _ _ ⟨fun o h1 _ w => run_binop_str h1 w (by simp) (by simp [Op.stringOp, bytesLess_strB ha hb])⟩
theorem runop_sgtr (ha : ∀ x ∈ a, 0 ≤ x ∧ x ≤ 255) (hb : ∀ x ∈ b, 0 ≤ x ∧ x ≤ 255) [hx : Ev n e x (.string (strB a))] [hy : Ev n e y (.string (strB b))] : RunOp P n w0 e Rs (.binOp .gtr t x y t') ty (.bool (lessB b a)) :=
  @RunOp.pure P n w0 e Rs _ _ _ ⟨fun o h1 _ w => run_binop_str h1 w (by simp) (by
    have h := lessB_tri a b
    simp only [Op.stringOp, bytesLess_strB ha hb, strB_eq ha hb, h]
    rfl)⟩
theorem runop_sleq (ha : ∀ x ∈ a, 0 ≤ x ∧ x ≤ 255) (hb : ∀ x ∈ b, 0 ≤ x ∧ x ≤ 255) [hx : Ev n e x (.string (strB a))] [hy : Ev n e y (.string (strB b))] : RunOp P n w0 e Rs (.binOp .leq t x y t') ty (.bool (!lessB b a)) :=
  @RunOp.pure P n w0 e Rs _ _ _ ⟨fun o h1 _ w => run_binop_str h1 w (by simp) (by
    have h := lessB_tri a b
    simp only [Op.stringOp, bytesLess_strB ha hb, strB_eq ha hb, ← h, Bool.not_not]
    rfl)⟩
end
end
end Go.Gsl

namespace Go.Gsl
set_option linter.unusedVariables false
section
variable {P : Program} {ops : List Oper} {Q : Cont} {n : Nat} {w0 : World} {rest : List Oper} {e : Env} {Rs F : List Res} {ty : TypeId}
theorem runop_load_rdS {t : TypeId} {x : Operand} {b o o' : Nat} {xs : List Value} {r : HProp} (k i : Nat) (v : Value) [hx : Ev n e x (.pointer (some ⟨b, o', none⟩))] [hn : NonAgg P t] [tk : Take Rs k r F] (hr : Reads r (some ⟨b, o, none⟩) xs) (hv : xs[i]? = some v) (ho : o' = o + i) :
    RunOp P n w0 e Rs (.load t x) ty v :=
  runop_load (a := ⟨b, o', none⟩) fun w hw => by
    obtain ⟨ad, h1, h2⟩ := hr.sat (k := k) hw i v hv
    cases h1
    rw [add_plain] at h2
    rw [ho]; exact h2
/-- a whole element -/
theorem runop_load_aggR {t : TypeId} {x : Operand} {b o o' sz : Nat} {xs : List Value} {r : HProp} (k i : Nat) (vs : List Value) [hx : Ev n e x (.pointer (some ⟨b, o', none⟩))] [ht : IsAggT P t] [hs : SizeOf P t sz] [tk : Take Rs k r F] (hr : Reads r (some ⟨b, o, none⟩) xs) (hl : vs.length = sz) (hv : (xs.drop i).take sz = vs) (ho : o' = o + i) :
    RunOp P n w0 e Rs (.load t x) ty (.agg vs.toArray) :=
  runop_load_agg sz hl fun w hw j v hj => by
    have h3 : xs[i + j]? = some v := by
      rw [← hv, List.getElem?_take] at hj
      split at hj
      · rwa [List.getElem?_drop] at hj
      · cases hj
    obtain ⟨ad, h1, h2⟩ := hr.sat (k := k) hw (i + j) v h3
    cases h1
    rw [add_plain] at h2
    rw [ho, Nat.add_assoc]; exact h2
theorem sw_load_aggR {d : Nat} {t : TypeId} {x : Operand} {b o o' sz : Nat} {xs : List Value} {r : HProp} (k i : Nat) (vs : List Value) {pos : String} {after : Array Edge} [hx : Ev n e x (.pointer (some ⟨b, o', none⟩))] [ht : IsAggT P t] [hs : SizeOf P t sz] [tk : Take Rs k r F] (hr : Reads r (some ⟨b, o, none⟩) xs) (hl : vs.length = sz) (hv : (xs.drop i).take sz = vs) (ho : o' = o + i)
    (q : SW P ops Q n w0 rest ((d, .agg vs.toArray) :: e) Rs) : SW P ops Q n w0 ({ dst := some d, op := .load t x, type := ty, pos := pos, after := after, guard := none } :: rest) e Rs :=
  sw_op (h := runop_load_aggR k i vs hr hl hv ho) q
theorem sw_indexN {d : Nat} {t et : TypeId} {x y : Operand} {b off m c sz : Nat} {k : IntKind} {i : Int} {pos : String} {after : Array Edge} (j : Nat) [hx : Ev n e x (.slice (some ⟨b, off, none⟩) m c)] [hy : Ev n e y (.int k i)] [hu : Und P t (.slice et)] [hs : SizeOf P et sz] (h : i = j ∧ j < m)
    (q : SW P ops Q n w0 rest ((d, .pointer (some ⟨b, off + j * sz, none⟩)) :: e) Rs) : SW P ops Q n w0 ({ dst := some d, op := .indexAddr t x y, type := ty, pos := pos, after := after, guard := none } :: rest) e Rs :=
  sw_op (h := runop_indexN j h) q
/-- what may be there is let go -/
theorem oR.drop {α : Type} (g : α → Res) (F : List Res) (o : Option α) : Ent (oR g F o) F := by
  cases o with
  | none => exact Ent.refl _
  | some a => exact Ent.drop _ _
end
end Go.Gsl

namespace Go.Gsl
set_option linter.unusedVariables false
section
variable {P : Program} {ops : List Oper} {Q : Cont} {n : Nat} {w0 : World} {rest : List Oper} {e : Env} {Rs F : List Res} {ty : TypeId}
theorem sw_append_make0 {d : Nat} {t tx el : TypeId} {nb : Nat} {x y : Operand} {z : Value} {b m c : Nat} {i : Int} {kx : IntKind} {cs : List Value} {pos : String} {after : Array Edge} (m' : Nat)
    [hx : Ev n e x (.slice (some ⟨b, 0, none⟩) m c)] [hy : Ev n e y (.int .i64 i)] [he : Elem P t el 1 nb z] [hu : Und P tx (.int kx)] [hz : One z] [tk : Take Rs b (pts b (.cells cs.toArray el (0, 0))) F]
    (h : i = m' ∧ m ≤ c ∧ cs.length = c ∧ m + m' ≤ 9223372036854775807 ∧ (m + m') * nb ≤ 140737488355328)
    (k : ∀ b' r, SW P ops Q n w0 rest ((d, .slice (some ⟨b', 0, none⟩) (m + m') (m + m' + r.length)) :: e) ((b', pts b' (.cells (cs.take m ++ List.replicate m' z ++ r).toArray el (0, 0))) :: F)) :
    SW P ops Q n w0 ({ dst := some d, op := .call { callee := .builtin .append, args := [x, y].toArray, argTypes := [t, tx].toArray }, type := ty, pos := pos, after := after, guard := none } :: rest) e Rs := by
  obtain ⟨rfl, h2, h3, h5, h6⟩ := h
  rcases Nat.eq_zero_or_pos m' with h0 | hp
  · subst h0
    intro w hw
    obtain ⟨i0, hi, hz0, hz1, hz2⟩ := info_parts he.info
    have hb := hw.get tk
    have hux : P.underlying tx = some (.int kx) := hu.out
    have hi64 : IntKind.i64.wrap 0 = 0 := IntWalk.i64_in _ (by omega)
    have hr : (Builtin.append_ #[t, tx] ty #[.slice (some ⟨b, 0, none⟩) m c, .int .i64 ((0 : Nat) : Int)]).run P w = .ok (.slice (some ⟨b, 0, none⟩) m c) w := by
      simp [Builtin.append_, run_underlying he.und, run_underlying hux, sizeOf, typeInfo, zeroValue, hi, hz0, hz1, asInt, asIntOf, hi64, h2, Builtin.lenOf, storeCells, Builtin.zeroCells]
    refine wpM_value rfl (run_call_append rfl w hr) ?_
    rw [actM_put]
    have h8 := k b (cs.drop m)
    have e1 : m + 0 + (cs.drop m).length = c := by rw [List.length_drop]; omega
    have e2 : cs.take m ++ List.replicate 0 z ++ cs.drop m = cs := by simp
    rw [e1, e2] at h8
    exact h8 w (hw.ent tk.ent)
  · exact sw_append_make m' ⟨rfl, hp, h2, h3, h5, h6⟩ k
end
end Go.Gsl

namespace Go.Gsl
set_option linter.unusedVariables false
/-- The contract of an iterator that leaves 'rs2' of 'rs'. -/
def IterO (P : Program) (f : FuncId) (cs : List Value) (ks : List Nat) (rs rs2 : List HProp) {α : Type} (enc : α → Value) (X : α → HProp) (Nx : List α → α → Prop) (Dn : List α → Prop) : Prop :=
  ∀ (l : Nat) (J Jx : List α → HProp),
    (∀ pre x, Nx pre x → SpecY P l [enc x] [l, 7006] [J pre, X x] fun F v Rs' => (v = .bool true ∧ Rs' = (l, J (pre ++ [x])) :: F) ∨ (v = .bool false ∧ Rs' = (l, Jx (pre ++ [x])) :: F)) →
    Spec P f (.func (.yield l) #[] #[] :: cs) (l :: ks) (J [] :: rs) fun F v Rs' => v = .tuple #[] ∧
      ((∃ xs, Dn xs ∧ Rs' = (l, J xs) :: (ks.zip rs2 ++ F)) ∨ (∃ pre x, Nx pre x ∧ Rs' = (l, Jx (pre ++ [x])) :: (ks.zip rs2 ++ F)))
section
variable {P : Program} {ops : List Oper} {Q : Cont} {n : Nat} {w0 : World} {l rest : List Oper} {e : Env} {Rs Rs' F G : List Res} {ty : TypeId}
/-- 'for x := range g { body }', at the outermost. -/
theorem sc_rangeFuncO {α : Type} {g : Operand} {p : Nat} {assign body : Code} {f : FuncId} {cs : List Value} {ks : List Nat} {rs rs2 : List HProp} {enc : α → Value} {X : α → HProp} {Nx : List α → α → Prop} {Dn : List α → Prop}
    (it : IterO P f cs ks rs rs2 enc X Nx Dn) (hq : Q.r = none) (St : List α → List Res) (Sx : Code → List α → List Res) [hg : Ev n e g (.func (.func f) #[] cs.toArray)] [hb : Body P f] [hsp : Split Rs ks rs F]
    (h0 : Ent F (St []))
    (round : ∀ w0 lp rc F' pre x, Nx pre x → SC P (Cont.rAssign P lp body (Cont.rEnd P lp rc (St (pre ++ [x])) (fun c => Sx c (pre ++ [x])) w0 F')) n w0 assign ((p, enc x) :: e) ((lp, LoopR lp rc .ready none) :: (7006, X x) :: (St pre ++ F')))
    (done : ∀ r xs, Dn xs → SQ (Q.mark r) n w0 .normal e ((r, defers0 r) :: (ks.zip rs2 ++ St xs)))
    (stop : ∀ r c pre x, Nx pre x → SC P (Q.mark r) n w0 c e ((r, defers0 r) :: (ks.zip rs2 ++ Sx c (pre ++ [x])))) :
    SC P Q n w0 (.rangeFunc g #[p] assign body) e Rs := by
  intro w hw
  rw [hq]
  refine wpIn_rangeFunc ?_
  intro fn hfn
  obtain ⟨rc, hrc⟩ : ∃ rc : Loop, rc = { state := .ready, pending := none, fn, tmps := (actM Q.m n e).tmps, params := #[p], assign, body, defers := w.heap.size } := ⟨_, rfl⟩
  obtain ⟨W1, hW1⟩ : ∃ W1, (w.alloc (.deferred (some []))).alloc (.loop rc) = W1 := ⟨_, rfl⟩
  have hs0 : Sat w0 w (ks.zip rs ++ F) := hw.ent hsp.ent
  have hs1 : Sat w0 (w.alloc (.deferred (some []))) ((w.heap.size, defers0 w.heap.size) :: (ks.zip rs ++ F)) := hs0.new _
  have hs2 : Sat w0 W1 ((w.heap.size + 1, pts (w.heap.size + 1) (.loop rc)) :: (w.heap.size, defers0 w.heap.size) :: (ks.zip rs ++ F)) := by
    have := hs1.new (.loop rc)
    rw [World.size_alloc] at this
    rw [← hW1]; exact this
  refine ⟨w.heap.size + 1, [{ target := .collected w.heap.size, args := #[] }], W1, { target := .fn (.func f) cs.toArray, args := #[.func (.yield (w.heap.size + 1)) #[] #[]] }, W1, f,
    #[.func (.yield (w.heap.size + 1)) #[] #[]] ++ cs.toArray, W1, ?_, ?_, fun _ _ => trivial, ?_, fun h => by simp [fz, Fence.wide] at h, ?_⟩
  · rw [← hW1, hrc]; exact run_enterLoop_outer _ _ _ _ _
  · have : (actM Q.m n e).eval g = .func (.func f) #[] cs.toArray := hg.out
    simp only [resolve, this]
    simp [Deferred.ofValue, Act.eval]
  · have h3 : #[.func (.yield (w.heap.size + 1)) #[] #[]] ++ cs.toArray = #[.func (.yield (w.heap.size + 1)) #[] #[]] ++ cs.toArray := rfl
    simp only [invoke]
    exact hb.out _ _
  · refine callsIn_fz.2 ?_
    have hspec := it (w.heap.size + 1) (fun pre => hall ((w.heap.size + 1, LoopR (w.heap.size + 1) rc .ready none) :: St pre)) (fun pre h => ∃ c, hall ((w.heap.size + 1, LoopR (w.heap.size + 1) rc .done (some c)) :: Sx c pre) h) ?_
    · have h4 : #[.func (.yield (w.heap.size + 1)) #[] #[]] ++ cs.toArray = (Value.func (.yield (w.heap.size + 1)) #[] #[] :: cs).toArray := by simp
      rw [h4]
      refine Calls.mono (hspec w0 [(w.heap.size, defers0 w.heap.size)] W1 ?_) ?_
      · show Sat w0 W1 ((w.heap.size + 1, _) :: (ks.zip rs ++ [(w.heap.size, defers0 w.heap.size)]))
        refine hs2.ent ?_
        have e1 : pts (w.heap.size + 1) (.loop rc) = LoopR (w.heap.size + 1) rc .ready none := by unfold LoopR; rw [hrc]
        rw [e1]
        refine Ent.trans (B := (w.heap.size + 1, LoopR (w.heap.size + 1) rc .ready none) :: (St [] ++ (ks.zip rs ++ [(w.heap.size, defers0 w.heap.size)]))) (Ent.cons _ ?_) (Ent.hall_close _ (_ :: _) _)
        refine Ent.trans (B := (w.heap.size, defers0 w.heap.size) :: (ks.zip rs ++ St [])) (Ent.cons _ (Ent.append (Ent.refl _) h0)) (Ent.perm ?_)
        refine (List.perm_append_comm (l₁ := [_]) (l₂ := ks.zip rs ++ St [])).trans ?_
        rw [← List.append_assoc]
        exact (List.perm_append_comm (l₁ := ks.zip rs) (l₂ := St [])).append_right _
      · rintro x w' ⟨v, Rs', rfl, ⟨rfl, hc⟩, hs'⟩
        have hperm : ∀ S : List Res, Ent (S ++ (ks.zip rs2 ++ [(w.heap.size, defers0 w.heap.size)])) ((w.heap.size, defers0 w.heap.size) :: (ks.zip rs2 ++ S)) := fun S => by
          refine Ent.perm (List.Perm.symm ?_)
          refine (List.perm_append_comm (l₁ := [_]) (l₂ := ks.zip rs2 ++ S)).trans ?_
          rw [← List.append_assoc]
          exact (List.perm_append_comm (l₁ := ks.zip rs2) (l₂ := S)).append_right _
        rcases hc with ⟨xs, hD, rfl⟩ | ⟨pre, x, hN, rfl⟩
        · have hs3 := hs'.ent (Ent.hall_open _ (_ :: _) _)
          have hb3 := hs3.get (Take.here _ _ _)
          refine ⟨none, _, run_endLoop hb3 (by simp), ?_⟩
          have hs4 := (hs3.set (Take.here _ _ _) (.loop { rc with state := .exhausted, pending := none })).ent ((Ent.drop _ _).trans (hperm (St xs)))
          exact done w.heap.size xs hD _ hs4
        · obtain ⟨c, hc⟩ := sat_ex (R := fun c => hall ((w.heap.size + 1, LoopR (w.heap.size + 1) rc .done (some c)) :: Sx c (pre ++ [x]))) hs'
          have hs3 := hc.ent (Ent.hall_open _ (_ :: _) _)
          have hb3 := hs3.get (Take.here _ _ _)
          refine ⟨some c, _, run_endLoop hb3 (by simp), ?_⟩
          have hs4 := (hs3.set (Take.here _ _ _) (.loop { rc with state := .exhausted, pending := some c })).ent ((Ent.drop _ _).trans (hperm (Sx c (pre ++ [x]))))
          have := stop w.heap.size c pre x hN _ hs4
          rw [show (Q.mark w.heap.size).r = none from hq] at this
          exact this
    · intro pre x hN w0' F' w' hs'
      have hs3 := hs'.ent (Ent.hall_open _ (_ :: _) _)
      have hb3 := hs3.get (Take.here _ _ _)
      have hy := run_yield (P := P) (args := #[enc x]) hb3 (by simp [hrc])
      refine ⟨fn, _, assign, body, by rw [hrc] at hy; exact hy, ?_⟩
      refine roundIn_of_wpIn (F := fz none) hfn ?_
      have hr := round w0' (w.heap.size + 1) rc F' pre x hN w' (hs3.ent (Ent.cons _ (Ent.perm List.perm_middle)))
      have ha := act_round (m := Q.m) (n := n) (e := e) (p := p) (v := enc x)
      rw [show (Cont.rAssign P (w.heap.size + 1) body (Cont.rEnd P (w.heap.size + 1) rc (St (pre ++ [x])) (fun c => Sx c (pre ++ [x])) w0' F')).m = [] from rfl, ← ha] at hr
      refine Code.wpIn_mono ?_ hr
      intro x0 a0 w1 hq1
      cases x0 with
      | normal =>
        obtain ⟨w2, hb, hbody⟩ := hq1
        refine ⟨w2, hb, Code.wpIn_mono ?_ hbody⟩
        intro e1 a1 w4 h1
        have h2 : roundPost P (w.heap.size + 1) (fun y w' => (y = .returned (.bool true) ∧ Sat w0' w' ((w.heap.size + 1, LoopR (w.heap.size + 1) rc .ready none) :: St (pre ++ [x]) ++ F')) ∨ (y = .returned (.bool false) ∧ ∃ c, Sat w0' w' ((w.heap.size + 1, LoopR (w.heap.size + 1) rc .done (some c)) :: Sx c (pre ++ [x]) ++ F'))) e1 a1 w4 := h1
        refine roundPost_mono ?_ e1 a1 w4 h2
        rintro y w3 (⟨rfl, hs⟩ | ⟨rfl, c, hs⟩)
        · exact ⟨_, _, rfl, .inl ⟨rfl, rfl⟩, hs.ent (Ent.hall_close _ (_ :: _) _)⟩
        · refine ⟨_, _, rfl, .inr ⟨rfl, rfl⟩, ?_⟩
          exact sat_ex_of (R := fun c => hall ((w.heap.size + 1, LoopR (w.heap.size + 1) rc .done (some c)) :: Sx c (pre ++ [x]))) c (hs.ent (Ent.hall_close _ (_ :: _) _))
      | _ => exact hq1.elim

/-- 'for x := range g { body }' in a block that a break leaves; behind it the resources are 'T' either way -/
theorem sc_rangeFuncXO {α : Type} {g : Operand} {p id : Nat} {assign body : Code} {f : FuncId} {cs : List Value} {ks : List Nat} {rs rs2 : List HProp} {enc : α → Value} {X : α → HProp} {Nx : List α → α → Prop} {Dn : List α → Prop}
    (it : IterO P f cs ks rs rs2 enc X Nx Dn) (hq : Q.r = none) (St Sx : List α → List Res) (R : List Res) [hg : Ev n e g (.func (.func f) #[] cs.toArray)] [hb : Body P f] [hsp : Split Rs ks rs F]
    (h0 : Ent F (St []))
    (round : ∀ w0 lp rc F' pre x, Nx pre x → SC P (Cont.rAssign P lp body (Cont.rEnd P lp rc (St (pre ++ [x])) (fun c => onlyExit id Sx c (pre ++ [x])) w0 F')) n w0 assign ((p, enc x) :: e) ((lp, LoopR lp rc .ready none) :: (7006, X x) :: (St pre ++ F')))
    (hD : ∀ xs, Dn xs → Ent (ks.zip rs2 ++ St xs) R)
    (hS : ∀ pre x, Nx pre x → Ent (ks.zip rs2 ++ Sx (pre ++ [x])) R)
    (fin : ∀ r, SQ (Q.mark r) n w0 .normal e ((r, defers0 r) :: R)) :
    SC P (Q.block id) n w0 (.rangeFunc g #[p] assign body) e Rs := by
  refine sc_rangeFuncO it hq St (onlyExit id Sx) h0 round (fun r xs h => ?_) (fun r c pre x h => ?_)
  · exact sq_block_m (fun w hw => fin r w (hw.ent (Ent.cons _ (hD xs h))))
  · cases c with
    | exit i =>
      by_cases hi : i = id
      · subst hi
        refine sc_exit (sq_block_exit_m (fun w hw => fin r w (hw.ent (Ent.cons _ ?_))))
        rw [onlyExit_eq]
        exact hS pre x h
      · have : onlyExit id Sx (.exit i) (pre ++ [x]) = falseR := by simp [onlyExit, hi]
        rw [this]
        exact sc_falseR (A := (r, defers0 r) :: ks.zip rs2)
    | _ => exact sc_falseR (A := (r, defers0 r) :: ks.zip rs2)
end
end Go.Gsl

namespace Go.Gsl
set_option linter.unusedVariables false

/-- The contract of a function that answers ('Post') or panics with a value ('PostP'). -/
def SpecP (P : Program) (f : FuncId) (args : List Value) (ks : List Nat) (rs : List HProp) (Post PostP : List Res → Value → List Res → Prop) : Prop :=
  ∀ (w0 : World) (F : List Res) (w : World), Sat w0 w (ks.zip rs ++ F) → Calls P f args.toArray w fun x w' =>
    (∃ v Rs', x = .returned v ∧ Post F v Rs' ∧ Sat w0 w' Rs') ∨ (∃ v Rs', x = .panicked [{ v, recovered := false }] ∧ PostP F v Rs' ∧ Sat w0 w' Rs')

section
variable {P : Program} {ops : List Oper} {Q : Cont} {n : Nat} {w0 : World} {l rest : List Oper} {e : Env} {Rs Rs' F : List Res}

theorem Spec.p {f : FuncId} {args : List Value} {ks : List Nat} {rs : List HProp} {A B : List Res → Value → List Res → Prop} (h : Spec P f args ks rs A) : SpecP P f args ks rs A B := by
  intro w0 F w hw
  refine Calls.mono (h w0 F w hw) ?_
  rintro x w' ⟨v, Rs', h1, h2, h3⟩
  exact .inl ⟨v, Rs', h1, h2, h3⟩
theorem SpecP.spec {f : FuncId} {args : List Value} {ks : List Nat} {rs : List HProp} {A B : List Res → Value → List Res → Prop} (h : SpecP P f args ks rs A B) (hn : ∀ F v Rs', ¬ B F v Rs') : Spec P f args ks rs A := by
  intro w0 F w hw
  refine Calls.mono (h w0 F w hw) ?_
  rintro x w' (h | ⟨v, Rs', h1, h2, h3⟩)
  · exact h
  · exact absurd h2 (hn _ _ _)
theorem SpecP.mono {f : FuncId} {args : List Value} {ks : List Nat} {rs : List HProp} {A B A' B' : List Res → Value → List Res → Prop} (h : SpecP P f args ks rs A B)
    (ha : ∀ F v Rs', A F v Rs' → A' F v Rs') (hb : ∀ F v Rs', B F v Rs' → B' F v Rs') : SpecP P f args ks rs A' B' := by
  intro w0 F w hw
  refine Calls.mono (h w0 F w hw) ?_
  rintro x w' (⟨v, Rs', h1, h2, h3⟩ | ⟨v, Rs', h1, h2, h3⟩)
  · exact .inl ⟨v, Rs', h1, ha _ _ _ h2, h3⟩
  · exact .inr ⟨v, Rs', h1, hb _ _ _ h2, h3⟩

theorem wpM_enterP {o : Oper} {e : Env} {w w' : World} {f : FuncId} {args : Array Value} (hg : o.guard = none) (h : (execOp (act n e).eval o).run P w = .ok (.enter f args) w')
    {R : Ending → World → Prop} (hc : Calls P f args w' R)
    (k : ∀ x w'', R x w'' → (∃ v, x = .returned v ∧ wpListIn (fz Q.r) 0 P ops.toArray Q.q rest ((actM Q.m n e).put o.dst v) w'') ∨ (∃ c, x = .panicked c ∧ Q.q (.panic c) (actM Q.m n e) w'')) :
    wpListIn (fz Q.r) 0 P ops.toArray Q.q (o :: rest) (actM Q.m n e) w := by
  refine wpM_upon hg h (fun _ h => by cases h) ?_
  rw [Oper.uponIn_enter]
  refine ⟨fun h => by simp [fz, Fence.wide] at h, callsIn_fz.2 (Calls.mono hc fun x w'' hx => ?_)⟩
  rcases k x w'' hx with ⟨v, rfl, hk⟩ | ⟨c, rfl, hk⟩
  · exact hk
  · exact hk

theorem sw_callP {d : Nat} {f : FuncId} {args : List Operand} {ts : Array TypeId} {ty : TypeId} {pos : String} {after : Array Edge} {vs : List Value} {ks : List Nat} {rs : List HProp} {A B : List Res → Value → List Res → Prop}
    (hs : SpecP P f vs ks rs A B) [hb : Body P f] [ha : EvL n e args vs] [hsp : Split Rs ks rs F]
    (k : ∀ v Rs', A F v Rs' → SW P ops Q n w0 rest ((d, v) :: e) Rs')
    (kp : ∀ v Rs', B F v Rs' → SQ Q n w0 (.panic [{ v, recovered := false }]) e Rs') :
    SW P ops Q n w0 ({ dst := some d, op := .call { callee := .value (.func f), args := args.toArray, argTypes := ts }, type := ty, pos := pos, after := after, guard := none } :: rest) e Rs := by
  intro w hw
  refine wpM_enterP rfl (by rw [run_call_func rfl ha.out, hb.out]) (hs w0 F w (hw.ent hsp.ent)) ?_
  rintro x w' (⟨v, Rs', rfl, hp, hw'⟩ | ⟨v, Rs', rfl, hp, hw'⟩)
  · refine .inl ⟨v, rfl, ?_⟩
    rw [actM_put]
    exact k v Rs' hp w' hw'
  · exact .inr ⟨_, rfl, kp v Rs' hp w' hw'⟩

theorem sw_callP_ {f : FuncId} {args : List Operand} {ts : Array TypeId} {ty : TypeId} {pos : String} {after : Array Edge} {vs : List Value} {ks : List Nat} {rs : List HProp} {A B : List Res → Value → List Res → Prop}
    (hs : SpecP P f vs ks rs A B) [hb : Body P f] [ha : EvL n e args vs] [hsp : Split Rs ks rs F]
    (k : ∀ v Rs', A F v Rs' → SW P ops Q n w0 rest e Rs')
    (kp : ∀ v Rs', B F v Rs' → SQ Q n w0 (.panic [{ v, recovered := false }]) e Rs') :
    SW P ops Q n w0 ({ dst := none, op := .call { callee := .value (.func f), args := args.toArray, argTypes := ts }, type := ty, pos := pos, after := after, guard := none } :: rest) e Rs := by
  intro w hw
  refine wpM_enterP rfl (by rw [run_call_func rfl ha.out, hb.out]) (hs w0 F w (hw.ent hsp.ent)) ?_
  rintro x w' (⟨v, Rs', rfl, hp, hw'⟩ | ⟨v, Rs', rfl, hp, hw'⟩)
  · exact .inl ⟨v, rfl, k v Rs' hp w' hw'⟩
  · exact .inr ⟨_, rfl, kp v Rs' hp w' hw'⟩

/-- the statement 'panic(x)' -/
theorem sw_panic {dst : Option Nat} {x : Operand} {ty : TypeId} {pos : String} {after : Array Edge} {t : TypeId} {u : Value} [hx : Ev n e x (.iface t u)]
    (k : SQ Q n w0 (.panic [{ v := .iface t u, recovered := false }]) e Rs) :
    SW P ops Q n w0 ({ dst := dst, op := .panic x, type := ty, pos := pos, after := after, guard := none } :: rest) e Rs := by
  intro w hw
  have h : (execOp (act n e).eval { dst := dst, op := .panic x, type := ty, pos := pos, after := after, guard := none }).run P w = .halt (.panic (.iface t u)) w := by
    unfold execOp
    have := hx.out
    simp only [this]
    rfl
  unfold wpListIn
  rw [if_pos (by simp [Region.wanted])]
  unfold Oper.wpIn
  refine ⟨fun _ _ => trivial, ?_⟩
  rw [Oper.semAt_eq _ _ _ (by intro c hc; cases hc)]
  rw [actM_eval, h]
  exact k w hw

/-! ### a panic on its way out -/
theorem sq_then_pan {y : Code} {c : List PanicEntry} (h : SQ Q n w0 (.panic c) e Rs) : SQ (Q.next P y) n w0 (.panic c) e Rs := fun w hw => h w hw
theorem sq_block_pan {id : Nat} {c : List PanicEntry} (h : SQ Q n w0 (.panic c) e Rs) : SQ (Q.block id) n w0 (.panic c) e Rs := fun w hw => h w hw
theorem sq_round_pan {α : Type} {inv : α → Env} {R : α → List Res} {m : α → Nat} {x : α} {c : List PanicEntry} (h : SQ Q n w0 (.panic c) e Rs) : SQ (Q.round n w0 inv R m x) n w0 (.panic c) e Rs := fun w hw => h w hw
theorem sq_join_pan {α : Type} {inv : α → Env} {R : α → List Res} {c : List PanicEntry} (h : SQ Q n w0 (.panic c) e Rs) : SQ (Q.join n w0 inv R) n w0 (.panic c) e Rs := fun w hw => h w hw
theorem sq_lin_pan {G : List Res} {its : List LI} {c : List PanicEntry} (h : SQ Q n w0 (.panic c) e Rs) : SQ (Q.lin P ops w0 G its) n w0 (.panic c) e Rs := fun w hw => h w hw
instance Go1.then_pan {y : Code} {c : List PanicEntry} : Go1 (SQ (Q.next P y) n w0 (.panic c) e Rs) (SQ Q n w0 (.panic c) e Rs) := ⟨sq_then_pan⟩
instance Go1.block_pan {id : Nat} {c : List PanicEntry} : Go1 (SQ (Q.block id) n w0 (.panic c) e Rs) (SQ Q n w0 (.panic c) e Rs) := ⟨sq_block_pan⟩
instance Go1.round_pan {α : Type} {inv : α → Env} {R : α → List Res} {m : α → Nat} {x : α} {c : List PanicEntry} : Go1 (SQ (Q.round n w0 inv R m x) n w0 (.panic c) e Rs) (SQ Q n w0 (.panic c) e Rs) := ⟨sq_round_pan⟩
instance Go1.join_pan {α : Type} {inv : α → Env} {R : α → List Res} {c : List PanicEntry} : Go1 (SQ (Q.join n w0 inv R) n w0 (.panic c) e Rs) (SQ Q n w0 (.panic c) e Rs) := ⟨sq_join_pan⟩
instance Go1.lin_pan {G : List Res} {its : List LI} {c : List PanicEntry} : Go1 (SQ (Q.lin P ops w0 G its) n w0 (.panic c) e Rs) (SQ Q n w0 (.panic c) e Rs) := ⟨sq_lin_pan⟩

/-! ### the body of a function that may panic -/
def PostX (P : Program) (fn : Func) (w0 : World) (R RP : Value → List Res → Prop) : Cont :=
  ⟨none, [], fun x a w => match x with
    | .panic c => a.defers = [] ∧ ∃ v Rs', c = [{ v, recovered := false }] ∧ RP v Rs' ∧ Sat w0 w Rs'
    | x => a.defers = [] ∧ bodyPostM Fence.wide 0 P fn (fun x w' => ∃ v Rs', x = .returned v ∧ R v Rs' ∧ Sat w0 w' Rs') x a w⟩
instance CalmC.postX {fn : Func} {R RP : Value → List Res → Prop} : CalmC (PostX P fn w0 R RP) := ⟨fun c a d v w h => by
  cases d <;> exact h⟩

theorem leavesIn_mono0 {fn : Func} {tmps : Array Value} {R R' : Ending → World → Prop} (h : ∀ x w, R x w → R' x w) (u : FrameMode) (w : World) : LeavesIn Fence.wide 0 P fn tmps R [] u w → LeavesIn Fence.wide 0 P fn tmps R' [] u w := by
  cases u with
  | returning => rintro ⟨v, h1, h2⟩; exact ⟨v, h1, h _ _ h2⟩
  | panicking c => exact h _ _
  | run => exact fun h => h

theorem spec_ofP {f : FuncId} {fn : Func} {c : Code} {vs : List Value} {ks : List Nat} {rs : List HProp} {R RP : List Res → Value → List Res → Prop} {Z : List Res → List Res} (hf : P.funcs[f]? = some fn) (hb : fn.body = some c) (hn : fn.ntmps = n) (hl : Nat.ble vs.length n = true)
    [ha : ArgE 0 vs e] [hz : ZipR ks rs Z] (h : ∀ w0 F, SC P (PostX P fn w0 (R F) (RP F)) n w0 c e (Z F)) : SpecP P f vs ks rs R RP := by
  intro w0 F w hw
  refine callsIn_wide.1 (callsIn_of_wp_marks (n := 0) hf hb trivial ?_)
  rw [hn, act_args vs n (Nat.le_of_ble_eq_true hl), ha.out]
  rw [hz.out] at hw
  refine Code.wpIn_mono ?_ (h w0 F w hw)
  intro x a w' q
  cases x with
  | panic c =>
    obtain ⟨hd, v, Rs', rfl, h1, h2⟩ := q
    show LeavesInM _ _ _ _ _ _ _ _ _
    rw [hd]
    exact .inr ⟨v, Rs', rfl, h1, h2⟩
  | normal =>
    obtain ⟨hd, q⟩ := q
    revert q
    show LeavesInM _ _ _ _ _ _ _ _ _ → LeavesInM _ _ _ _ _ _ _ _ _
    rw [hd]
    exact leavesIn_mono0 (fun _ _ h => .inl h) _ _
  | ret =>
    obtain ⟨hd, q⟩ := q
    revert q
    show LeavesInM _ _ _ _ _ _ _ _ _ → LeavesInM _ _ _ _ _ _ _ _ _
    rw [hd]
    exact leavesIn_mono0 (fun _ _ h => .inl h) _ _
  | exit id => exact q.2
  | goto l => exact q.2
  | outgrown => exact .inl q.2

/-- an answer -/
theorem sqx {fn : Func} {R RP : Value → List Res → Prop} (h : SQ (Post P fn w0 R) n w0 .ret e Rs) : SQ (PostX P fn w0 R RP) n w0 .ret e Rs := fun w hw => ⟨rfl, (h w hw).2⟩
theorem sqx_n {fn : Func} {R RP : Value → List Res → Prop} (h : SQ (Post P fn w0 R) n w0 .normal e Rs) : SQ (PostX P fn w0 R RP) n w0 .normal e Rs := fun w hw => ⟨rfl, (h w hw).2⟩
/-- a panic -/
theorem sqx_pan {fn : Func} {R RP : Value → List Res → Prop} {v : Value} (h : ∃ Rs', RP v Rs' ∧ Ent Rs Rs') : SQ (PostX P fn w0 R RP) n w0 (.panic [{ v, recovered := false }]) e Rs := by
  obtain ⟨Rs', h1, h2⟩ := h
  intro w hw
  exact ⟨rfl, v, Rs', rfl, h1, hw.ent h2⟩
end
end Go.Gsl
