/- A run of code by the kernel: what operations write: new blocks, stores, maps. -/
import Derived.Test.YtemediifhpgdgaaGreatXA
import Derived.Deep.AppendSrc
import Derived.Lib.AppendZeros
namespace Go.Gsl
set_option linter.unusedVariables false

def MB (m : Ren) (nx : Nat) : Prop := ∀ j, nx ≤ j → m j = none
/-- the blocks ahead of 'nx' are as they were -/
structure Ren.ext (m : Ren) (nx : Nat) (m' : Ren) : Prop where
  on : ∀ j, j < nx → m' j = m j
  sy : m'.s = m.s
theorem Ren.ext_refl (m : Ren) (nx : Nat) : m.ext nx m := ⟨fun _ _ => rfl, rfl⟩
theorem Ren.ext_upd {m : Ren} {nx : Nat} {x : Nat × Nat} : m.ext nx (m.upd nx x) := ⟨fun j hj => by rw [Ren.upd_ap, if_neg (by omega)], rfl⟩
theorem Ren.ext.le {m m' : Ren} {nx : Nat} (h : m.ext nx m') (hm : MB m nx) : m.le m' := by
  refine ⟨fun j x hj => ?_, h.sy⟩
  by_cases hx : j < nx
  · rw [h.on j hx]; exact hj
  · rw [hm j (by omega)] at hj; cases hj
theorem Ren.ext.trans {m m' m2 : Ren} {nx nx' : Nat} (h : m.ext nx m') (h2 : m'.ext nx' m2) (hl : nx ≤ nx') : m.ext nx m2 := ⟨fun j hj => by rw [h2.on j (by omega), h.on j hj], h2.sy.trans h.sy⟩
/-- an operation with an effect: its value (none: it has none), the memory behind it, the next free number -/
def WrOK (P : Program) (op : Op) (ty : TypeId) (env : T Value) (H : AHeap) (nx : Nat) (ov : Option Value) (H' : AHeap) (nx' : Nat) : Prop :=
  ∀ (m : Ren) (n : Nat) (a : Act) (w0 w : World) (F : List Res), EnvR m env n a.tmps → MB m nx → Sat w0 w ((kH, HEAP H m) :: F) →
    ∃ (m' : Ren) (w' : World), m.ext nx m' ∧ MB m' nx' ∧ Sat w0 w' ((kH, HEAP H' m') :: F) ∧ ∃ x : Next, (match ov with | some v => ∃ u, tr m' v = some u ∧ x = .value u | none => x = .skip) ∧
      ∀ o : Oper, o.op = op → o.type = ty → (execOp a.eval o).run P w = .ok x w'

theorem MB.upd {m : Ren} {nx : Nat} {x : Nat × Nat} (h : MB m nx) : MB (m.upd nx x) (nx + 1) := fun j hj => by
  rw [Ren.upd_ap, if_neg (by omega)]; exact h j (by omega)
theorem heap_free {w0 w : World} {F : List Res} {H : AHeap} {m : Ren} {k : Nat} (hs : Sat w0 w ((kH, HEAP H m) :: F)) (hn : m k = none) : H.get k = none := by
  cases h : H.get k with
  | none => rfl
  | some o => obtain ⟨b, s, r, h1, _⟩ := heap_get hs h; rw [hn] at h1; cases h1

section
variable {ρ : Type} {P : Program} {X : T XT} {ty t : TypeId} {env : T Value} {H : AHeap} {nx : Nat} {r : ρ} {x y z : Operand} {k : Option Value → AHeap → Nat → Option ρ}

noncomputable def newK (o : AObj) (H : AHeap) (nx : Nat) (k : AHeap → Nat → Option ρ) : Option ρ := T.put (some o) H nx fun H' => nfK (Nat.succ nx) fun n => k H' n
theorem newK_some {o : AObj} {k : AHeap → Nat → Option ρ} (h : newK o H nx k = some r) : ∃ H', (∀ j, H'.get j = if j = nx then some o else H.get j) ∧ k H' (nx + 1) = some r := by
  obtain ⟨H', h1, h⟩ := T.put_spec _ _ _ _ _ h
  rw [nfK_eq] at h
  exact ⟨H', h1, h⟩
/-- a new block -/
theorem wr_new {op : Op} {o : AObj} {H' : AHeap} {v : Value} (hg : ∀ j, H'.get j = if j = nx then some o else H.get j)
    (h : ∀ (m : Ren) (n : Nat) (a : Act) (w0 w : World) (F : List Res), EnvR m env n a.tmps → Sat w0 w ((kH, HEAP H m) :: F) → ∃ s r', ObjR m s o r' ∧ ∀ m' : Ren, m' nx = some (w.heap.size, s) → ∃ u, tr m' v = some u ∧
      ∀ o : Oper, o.op = op → o.type = ty → (execOp a.eval o).run P w = .ok (.value u) { w with heap := w.heap.push r' }) :
    WrOK P op ty env H nx (some v) H' (nx + 1) := by
  intro m n a w0 w F he hm hs
  obtain ⟨s, r', h1, h2⟩ := h m n a w0 w F he hs
  have hn := hm nx (Nat.le_refl _)
  have h3 := heap_new hs hn (heap_free hs hn) hg h1
  obtain ⟨u, h4, h5⟩ := h2 (m.upd nx (w.heap.size, s)) (by simp [Ren.upd_ap])
  exact ⟨_, _, Ren.ext_upd, hm.upd, h3, _, ⟨u, h4, rfl⟩, h5⟩

theorem cells_one_row {m : Ren} {z cs : List Value} {ty : TypeId} {sz : Nat} (hz : trL m z = some cs) (hl : cs.length = sz) : ObjR m 0 (.cells 1 sz .lf z ty false) (.cells cs.toArray ty) := by
  refine ⟨cs.toArray, rfl, by simp [hl], fun _ => rfl, fun i v hv => ?_⟩
  unfold cellAt at hv
  split at hv
  · rename_i hi
    have hi : i < sz := by omega
    rw [Nat.mod_eq_of_lt hi] at hv
    obtain ⟨u, h1, h2⟩ := trL_get hz (show z[i]? = some v from hv)
    exact ⟨u, h1, by simpa using h2⟩
  · cases hv

noncomputable def wrAlloc (X : T XT) (t : TypeId) (H : AHeap) (nx : Nat) (k : Option Value → AHeap → Nat → Option ρ) : Option ρ :=
  getK X t fun xt => newK (.cells 1 xt.sz .lf xt.z t false) H nx fun H' n => k (some (.pointer (some ⟨nx, 0, none⟩))) H' n
theorem wrAlloc_some (hX : TyOK P X) (h : wrAlloc X t H nx k = some r) : ∃ ov H' nx', WrOK P (.alloc t) ty env H nx ov H' nx' ∧ k ov H' nx' = some r := by
  obtain ⟨xt, h1, h⟩ := getK_some h
  obtain ⟨H', hg, h⟩ := newK_some h
  have hT := hX t xt h1
  refine ⟨_, _, _, wr_new hg fun m n a w0 w F he hs => ⟨0, .cells ⟨xt.z⟩ t, cells_one_row (trL_bare m _ hT.bz.1) hT.len, fun m' hm' => ⟨.pointer (some ⟨w.heap.size, 0, none⟩), by simp only [tr, trA, hm'], fun o ho _ => ?_⟩⟩, h⟩
  unfold execOp; rw [ho]
  simp [Instr.alloc, hT.zero, newVar, newRow, hT.bz.2] <;> rfl

noncomputable def wrBox (t : TypeId) (x : Operand) (env : T Value) (H : AHeap) (nx : Nat) (k : Option Value → AHeap → Nat → Option ρ) : Option ρ :=
  evK x env fun v => nfK (cellsV v).length fun sz => newK (.cells 1 sz .lf (cellsV v) t false) H nx fun H' n => k (some (.pointer (some ⟨nx, 0, none⟩))) H' n
theorem wrBox_some (h : wrBox t x env H nx k = some r) : ∃ ov H' nx', WrOK P (.box t x) ty env H nx ov H' nx' ∧ k ov H' nx' = some r := by
  obtain ⟨v, h1, h⟩ := evK_some h
  rw [nfK_eq] at h
  obtain ⟨H', hg, h⟩ := newK_some h
  refine ⟨_, _, _, wr_new hg fun m n a w0 w F he hs => ?_, h⟩
  obtain ⟨u, h2, h3⟩ := h1 m n a he
  have h4 := tr_cells h2
  refine ⟨0, .cells u.cells t, cells_one_row h4 (trL_len h4), fun m' hm' => ⟨.pointer (some ⟨w.heap.size, 0, none⟩), by simp only [tr, trA, hm'], fun o ho _ => ?_⟩⟩
  unfold execOp; rw [ho]
  simp [Instr.box, h3, newVar, newRow] <;> rfl

noncomputable def wrMakeMap (X : T XT) (t : TypeId) (q : Option Operand) (env : T Value) (H : AHeap) (nx : Nat) (k : Option Value → AHeap → Nat → Option ρ) : Option ρ := match q with
  | none => newK (.map [] 0) H nx fun H' n => k (some (.map (some nx))) H' n
  | some q => getK X t fun xt => mapK xt.kd fun _ _ => evK q env fun v => intK v fun _ _ => newK (.map [] 0) H nx fun H' n => k (some (.map (some nx))) H' n
theorem wrMakeMap_some (hX : TyOK P X) {q : Option Operand} (h : wrMakeMap X t q env H nx k = some r) : ∃ ov H' nx', WrOK P (.makeMap t q) ty env H nx ov H' nx' ∧ k ov H' nx' = some r := by
  cases q with
  | none =>
    obtain ⟨H', hg, h⟩ := newK_some (show newK (.map [] 0) H nx (fun H' n => k (some (.map (some nx))) H' n) = some r from h)
    refine ⟨_, _, _, wr_new hg fun m n a w0 w F he hs => ⟨0, .map #[] 0, ⟨[], rfl, rfl⟩, fun m' hm' => ⟨.map (some w.heap.size), by simp only [tr, hm'], fun o ho _ => ?_⟩⟩, h⟩
    unfold execOp; rw [ho]
    simp [Instr.makeMap] <;> rfl
  | some q =>
    obtain ⟨xt, h1, h⟩ := getK_some h
    obtain ⟨kt, et, h2, h⟩ := mapK_some h
    obtain ⟨v, h3, h⟩ := evK_some h
    obtain ⟨kd, i, rfl, h'⟩ := intK_some h
    obtain ⟨H', hg, h''⟩ := newK_some h'
    obtain ⟨d, hu, hk⟩ := (hX t xt h1).und
    rw [h2] at hk; simp only [KdOK] at hk; subst hk
    refine ⟨_, _, _, wr_new hg fun m n a w0 w F he hs => ⟨0, .map #[] 0, ⟨[], rfl, rfl⟩, fun m' hm' => ⟨.map (some w.heap.size), by simp only [tr, hm'], fun o ho _ => ?_⟩⟩, h''⟩
    obtain ⟨u, h4, h5⟩ := h3 m n a he
    simp only [tr, Option.some.injEq] at h4; subst h4
    unfold execOp; rw [ho]
    simp [Instr.makeMap, run_undX hu, h5, asInt, asIntOf] <;> rfl

/-! ### stores -/
noncomputable def oneL (vs : List Value) : Bool := List.rec (motive := fun _ => Bool) true (fun v _ ih => match v with
  | .agg _ | .tuple _ => false
  | _ => ih) vs
theorem oneL_spec : ∀ {vs : List Value}, oneL vs = true → ∀ v ∈ vs, v.oneCell' = true
  | [], _, v, hv => by cases hv
  | u :: vs, h, v, hv => by
    have h' : u.oneCell' = true ∧ oneL vs = true := by
      cases u <;> first | (cases (show false = true from h)) | exact ⟨rfl, h⟩
    rcases List.mem_cons.1 hv with rfl | hv
    · exact h'.1
    · exact oneL_spec h'.2 v hv
theorem tr_one {m : Ren} : ∀ {v x : Value}, tr m v = some x → v.oneCell' = true → x.oneCell' = true := by
  intro v x h h1
  cases v with
  | agg c => cases h1
  | tuple c => cases h1
  | pointer a => cases a with
    | none => cases h; rfl
    | some a => simp only [tr] at h; split at h <;> first | (cases h; rfl) | cases h
  | slice a i j => cases a with
    | none => cases h; rfl
    | some a => simp only [tr] at h; split at h <;> first | (cases h; rfl) | cases h
  | map a => cases a with
    | none => cases h; rfl
    | some a => simp only [tr] at h; split at h <;> first | (cases h; rfl) | cases h
  | chan a => cases a with
    | none => cases h; rfl
    | some a => simp only [tr, Option.some.injEq] at h; subst h; exact m.one a
  | func f a b => obtain ⟨a⟩ := a; obtain ⟨b⟩ := b; simp only [tr] at h; split at h <;> first | (cases h; rfl) | cases h
  | iface u v => simp only [tr] at h; split at h <;> first | (cases h; rfl) | cases h
  | _ => cases h; rfl
theorem trL_one {m : Ren} : ∀ {vs xs : List Value}, trL m vs = some xs → (∀ v ∈ vs, v.oneCell' = true) → ∀ x ∈ xs, x.oneCell' = true
  | [], xs, h, _, x, hx => by simp [trL] at h; subst h; cases hx
  | v :: vs, xs, h, h1, x, hx => by
    obtain ⟨y, z, h2, h3, rfl⟩ := trL_cons.1 h
    rcases List.mem_cons.1 hx with rfl | hx
    · exact tr_one h2 (h1 v (by simp))
    · exact trL_one h3 (fun u hu => h1 u (by simp [hu])) x hx

/-- cells written at o -/
noncomputable def stK' (vs : List Value) (o : Nat) (obj : AObj) (k : AObj → Option ρ) : Option ρ :=
  cellsK obj fun n rs tt z ty opn => nfK (Nat.div o rs) fun q => nfK (Nat.mod o rs) fun c => ckK (Nat.ble (Nat.succ q) n) (ckK (Nat.ble (Nat.add c vs.length) rs) (rowK tt z q fun row =>
    ovAtK vs row c fun row' => T.put (some row') tt q fun tt' => k (.cells n rs tt' z ty opn)))
theorem cellAt_put {n rs q c : Nat} {tt tt' : T (List Value)} {z vs : List Value} {i : Nat} {v : Value} (hg : ∀ j, tt'.get j = if j = q then some ((rowAt tt z q).take c ++ vs ++ (rowAt tt z q).drop (c + vs.length)) else tt.get j)
    (hl : c + vs.length ≤ (rowAt tt z q).length) (hc : c + vs.length ≤ rs) (hv : cellAt n rs tt' z i = some v) :
    (q * rs + c ≤ i ∧ i < q * rs + c + vs.length ∧ vs[i - (q * rs + c)]? = some v) ∨ (¬ (q * rs + c ≤ i ∧ i < q * rs + c + vs.length) ∧ cellAt n rs tt z i = some v) := by
  unfold cellAt at hv ⊢
  split at hv
  · rename_i hi
    rw [if_pos hi]
    by_cases hq : i / rs = q
    · have hrow : rowAt tt' z (i / rs) = (rowAt tt z q).take c ++ vs ++ (rowAt tt z q).drop (c + vs.length) := by unfold rowAt; rw [hg, hq, if_pos rfl]; rfl
      rw [hrow] at hv
      have hdm : q * rs + i % rs = i := by rw [← hq]; exact Nat.div_add_mod' i rs
      have ht : ((rowAt tt z q).take c).length = c := by rw [List.length_take]; omega
      by_cases h1 : i % rs < c
      · refine .inr ⟨by omega, ?_⟩
        rw [hq]
        rw [List.append_assoc, List.getElem?_append_left (by rw [ht]; exact h1), List.getElem?_take_of_lt h1] at hv
        exact hv
      · by_cases h2 : i % rs < c + vs.length
        · refine .inl ⟨by omega, by omega, ?_⟩
          rw [List.append_assoc, List.getElem?_append_right (by rw [ht]; omega), ht, List.getElem?_append_left (by omega)] at hv
          rw [show i - (q * rs + c) = i % rs - c by omega]; exact hv
        · refine .inr ⟨by omega, ?_⟩
          rw [hq]
          rw [List.getElem?_append_right (by rw [List.length_append, ht]; omega), List.length_append, ht, List.getElem?_drop] at hv
          rw [show c + vs.length + (i % rs - (c + vs.length)) = i % rs by omega] at hv
          exact hv
    · refine .inr ⟨fun ⟨ha, hb⟩ => hq ?_, ?_⟩
      · have : i = q * rs + (i - q * rs) := by omega
        rw [this]
        exact (div_at (by omega)).1
      · have : rowAt tt' z (i / rs) = rowAt tt z (i / rs) := by unfold rowAt; rw [hg, if_neg hq]
        rw [this] at hv; exact hv
  · cases hv
/-- the block behind the store -/
theorem stK'_some {vs : List Value} {o : Nat} {obj : AObj} {k : AObj → Option ρ} (h : stK' vs o obj k = some r) : ∃ obj', k obj' = some r ∧ ∀ m s rr xs, ObjR m s obj rr → trL m vs = some xs →
    ∃ (cs : List Value) (ty : TypeId), rr = .cells cs.toArray ty (0, 0) ∧ o + xs.length ≤ cs.length ∧ ObjR m s obj' (.cells (cs.take o ++ xs ++ cs.drop (o + xs.length)).toArray ty (0, 0)) := by
  obtain ⟨n, rs, tt, z, ty, opn, rfl, h1⟩ := cellsK_some h
  clear h
  rw [nfK_eq, nfK_eq] at h1
  obtain ⟨hq, h⟩ := ckK_some h1
  clear h1
  obtain ⟨hc, h⟩ := ckK_some h
  rw [rowK_eq] at h
  obtain ⟨hl, h⟩ := ovAtK_some h
  obtain ⟨tt', hg, h⟩ := T.put_spec _ _ _ _ _ h
  have hq : o / rs + 1 ≤ n := Nat.le_of_ble_eq_true hq
  have hc : o % rs + vs.length ≤ rs := Nat.le_of_ble_eq_true hc
  have ho : o / rs * rs + o % rs = o := Nat.div_add_mod' o rs
  have ho' : Nat.div o rs * rs + Nat.mod o rs = o := ho
  refine ⟨_, h, fun m s rr xs hR hx => ?_⟩
  obtain ⟨cs, h2, h3, h4, h5⟩ := hR
  have hxl := trL_len hx
  have hsz : o + vs.length ≤ cs.toList.length := by
    have e : cs.toList.length = (n + s) * rs := by rw [← h3]; rfl
    rw [e, Nat.add_mul]
    have := Nat.mul_le_mul_right rs hq
    rw [Nat.add_mul, Nat.one_mul] at this
    have h0 : 0 ≤ s * rs := Nat.zero_le _
    omega
  refine ⟨cs.toList, ty, by simpa using h2, by rw [hxl]; exact hsz, ?_⟩
  refine ⟨_, rfl, ?_, h4, fun i v hv => ?_⟩
  · rw [← h3]
    simp
    rw [hxl]
    have e : cs.toList.length = cs.size := rfl
    omega
  · have htk : (cs.toList.take o).length = o := by rw [List.length_take]; omega
    rcases cellAt_put hg hl hc hv with ⟨h6, h7, h8⟩ | ⟨h6, h7⟩
    · rw [ho'] at h6 h7 h8
      obtain ⟨u, h9, h10⟩ := trL_get hx h8
      refine ⟨u, h9, ?_⟩
      rw [List.getElem?_toArray, List.append_assoc, List.getElem?_append_right (by rw [htk]; omega), htk, List.getElem?_append_left (by rw [hxl]; omega)]
      exact h10
    · rw [ho'] at h6
      obtain ⟨u, h9, h10⟩ := h5 i v h7
      refine ⟨u, h9, ?_⟩
      have h10 : cs.toList[i]? = some u := by simpa using h10
      rw [List.getElem?_toArray]
      by_cases hi : i < o
      · rw [List.append_assoc, List.getElem?_append_left (by rw [htk]; exact hi), List.getElem?_take_of_lt hi]; exact h10
      · rw [List.getElem?_append_right (by rw [List.length_append, htk, hxl]; omega), List.length_append, htk, hxl, List.getElem?_drop]
        rw [show o + vs.length + (i - (o + vs.length)) = i by omega]; exact h10

noncomputable def wrStore (X : T XT) (t : TypeId) (x y : Operand) (env : T Value) (H : AHeap) (nx : Nat) (k : Option Value → AHeap → Nat → Option ρ) : Option ρ :=
  evK x env fun v => ptrK v fun b o => evK y env fun v => getK X t fun xt => ckK (Nat.beq (cellsV v).length xt.sz) (ckK (oneL (cellsV v)) (getK H b fun obj => stK' (cellsV v) o obj fun obj' => T.put (some obj') H b fun H' => k none H' nx))
theorem wrStore_some (hX : TyOK P X) (h : wrStore X t x y env H nx k = some r) : ∃ ov H' nx', WrOK P (.store t x y) ty env H nx ov H' nx' ∧ k ov H' nx' = some r := by
  obtain ⟨v, h1, h⟩ := evK_some h
  obtain ⟨b, o, rfl, h⟩ := ptrK_some h
  obtain ⟨v, h2, h⟩ := evK_some h
  obtain ⟨xt, h3, h⟩ := getK_some h
  obtain ⟨h4, h⟩ := ckK_some h
  obtain ⟨h5, h⟩ := ckK_some h
  obtain ⟨obj, h6, h⟩ := getK_some h
  obtain ⟨obj', h, h7⟩ := stK'_some h
  obtain ⟨H', hg, h⟩ := T.put_spec _ _ _ _ _ h
  have hT := hX t xt h3
  have h4 := Nat.eq_of_beq_eq_true h4
  refine ⟨_, _, _, fun m n a w0 w F he hm hs => ?_, h⟩
  obtain ⟨u, h8, h9⟩ := h1 m n a he
  obtain ⟨b', s, rr, h10, h11, h12⟩ := heap_get hs h6
  simp only [tr, trA, h10, Option.some.injEq] at h8
  subst h8
  obtain ⟨uv, h13, h14⟩ := h2 m n a he
  have h15 := tr_cells h13
  obtain ⟨cs, ty', rfl, h16, h17⟩ := h7 m s rr _ h11 h15
  have h18 := heap_put hs h6 h10 hg h17
  refine ⟨m, _, Ren.ext_refl m _, hm, h18, _, rfl, fun o' ho _ => ?_⟩
  have h19 := run_storeCells (P := P) (b := b') (off := o) (ty' := ty') uv.cells.toList 0 cs w (trL_one h15 (oneL_spec h5)) h12 (by rw [Nat.zero_add]; exact h16)
  unfold execOp; rw [ho]
  have h20 : uv.cells.size = xt.sz := by rw [← h4, ← trL_len h15]; rfl
  simp only [h9, h14, Instr.storeAt, Instr.sureAddr, storeVar, Sem.run_bind, hT.size, Result.andThen_ok, Sem.run_pure, h20, ne_eq, not_true_eq_false, if_false, h19, Nat.add_zero]
end
end Go.Gsl

namespace Go.Gsl
set_option linter.unusedVariables false

theorem sat_drew {w0 w : World} {Rs : List Res} (h : Sat w0 w Rs) : Sat w0 w.drew Rs := h

/-! ### rows, as the model has them -/
/-- the rows' cells, one behind the other -/
def RowsR (m : Ren) (sz : Nat) (rows : List (List Value)) (xs : List Value) : Prop :=
  xs.length = rows.length * sz ∧ ∀ (q : Nat) (row : List Value) (j : Nat) (v : Value), rows[q]? = some row → j < sz → row[j]? = some v → ∃ x, tr m v = some x ∧ xs[q * sz + j]? = some x
/-- cells of the model at 'cs' are those of the tree -/
def CR (m : Ren) (n rs : Nat) (t : T (List Value)) (z : List Value) (cs : List Value) : Prop := ∀ i v, cellAt n rs t z i = some v → ∃ x, tr m v = some x ∧ cs[i]? = some x
section
variable {ρ : Type}
noncomputable def putRowsK (rows : List (List Value)) (tt : T (List Value)) (at' : Nat) : (T (List Value) → Option ρ) → Option ρ :=
  List.rec (motive := fun _ => T (List Value) → Nat → (T (List Value) → Option ρ) → Option ρ) (fun tt _ k => k tt) (fun row _ ih tt at' k => T.put (some row) tt at' fun tt' => ih tt' (Nat.succ at') k) rows tt at'
theorem putRowsK_some : ∀ {rows : List (List Value)} {tt : T (List Value)} {at' : Nat} {k : T (List Value) → Option ρ} {r : ρ}, putRowsK rows tt at' k = some r →
    ∃ tt', (∀ q, tt'.get q = if at' ≤ q ∧ q < at' + rows.length then rows[q - at']? else tt.get q) ∧ k tt' = some r
  | [], tt, at', k, r, h => ⟨tt, fun q => by rw [if_neg]; simp, h⟩
  | row :: rows, tt, at', k, r, h => by
    obtain ⟨t1, h1, h2⟩ := T.put_spec _ _ _ _ _ (show T.put (some row) tt at' (fun tt' => putRowsK rows tt' (at' + 1) k) = some r from h)
    obtain ⟨t2, h3, h4⟩ := putRowsK_some h2
    refine ⟨t2, fun q => ?_, h4⟩
    rw [h3]
    by_cases h5 : at' + 1 ≤ q ∧ q < at' + 1 + rows.length
    · rw [if_pos h5, if_pos (by simp; omega), show q - at' = (q - (at' + 1)) + 1 by omega, List.getElem?_cons_succ]
    · rw [if_neg h5, h1]
      by_cases h6 : q = at'
      · subst h6; simp
      · rw [if_neg h6, if_neg (by simp; omega)]
end
theorem rowAt_put {rows : List (List Value)} {tt tt' : T (List Value)} {z : List Value} {at' q : Nat} (hg : ∀ q, tt'.get q = if at' ≤ q ∧ q < at' + rows.length then rows[q - at']? else tt.get q) :
    rowAt tt' z q = if at' ≤ q ∧ q < at' + rows.length then (rows[q - at']?).getD z else rowAt tt z q := by
  unfold rowAt
  rw [hg]
  split <;> rfl
/-- rows laid over cells -/
theorem CR_put {m : Ren} {n sz at' : Nat} {tt tt' : T (List Value)} {z : List Value} {rows : List (List Value)} {cs xs : List Value} (h : CR m n sz tt z cs) (hx : RowsR m sz rows xs)
    (hg : ∀ q, tt'.get q = if at' ≤ q ∧ q < at' + rows.length then rows[q - at']? else tt.get q) (hl : at' * sz + xs.length ≤ cs.length) :
    CR m n sz tt' z (cs.take (at' * sz) ++ xs ++ cs.drop (at' * sz + xs.length)) := by
  intro i v hv
  have htk : (cs.take (at' * sz)).length = at' * sz := by rw [List.length_take]; omega
  unfold cellAt at hv
  split at hv
  · rename_i hi
    have hsz : 0 < sz := by rcases Nat.eq_zero_or_pos sz with h | h; · rw [h] at hi; omega
                            · exact h
    have hm : i % sz < sz := Nat.mod_lt _ hsz
    have hdm : i / sz * sz + i % sz = i := Nat.div_add_mod' i sz
    rw [rowAt_put hg] at hv
    split at hv
    · rename_i hq
      have hlt : i / sz - at' < rows.length := by omega
      rw [List.getElem?_eq_getElem hlt, Option.getD_some] at hv
      obtain ⟨x, h1, h2⟩ := hx.2 (i / sz - at') _ (i % sz) v (List.getElem?_eq_getElem hlt) hm hv
      refine ⟨x, h1, ?_⟩
      have e : (i / sz - at') * sz = i / sz * sz - at' * sz := Nat.sub_mul _ _ _
      have e2 : at' * sz ≤ i / sz * sz := Nat.mul_le_mul_right _ hq.1
      have e3 : (i / sz - at') * sz + i % sz < xs.length := (List.getElem?_eq_some_iff.1 h2).1
      rw [List.append_assoc, List.getElem?_append_right (by rw [htk]; omega), htk, List.getElem?_append_left (by omega)]
      rw [show i - at' * sz = (i / sz - at') * sz + i % sz by omega]
      exact h2
    · rename_i hq
      obtain ⟨x, h1, h2⟩ := h i v (by unfold cellAt; rw [if_pos hi]; exact hv)
      refine ⟨x, h1, ?_⟩
      have hor : i / sz < at' ∨ at' + rows.length ≤ i / sz := by omega
      rcases hor with h3 | h3
      · have e2 : (i / sz + 1) * sz ≤ at' * sz := Nat.mul_le_mul_right _ h3
        rw [Nat.add_mul, Nat.one_mul] at e2
        rw [List.append_assoc, List.getElem?_append_left (by rw [htk]; omega), List.getElem?_take_of_lt (by omega)]; exact h2
      · have e2 : (at' + rows.length) * sz ≤ i / sz * sz := Nat.mul_le_mul_right _ h3
        rw [Nat.add_mul, ← hx.1] at e2
        rw [List.getElem?_append_right (by rw [List.length_append, htk]; omega), List.length_append, htk, List.getElem?_drop]
        rw [show at' * sz + xs.length + (i - (at' * sz + xs.length)) = i by omega]; exact h2
  · cases hv
/-- rows behind rows -/
theorem CR_app {m : Ren} {l n sz : Nat} {tt tt' : T (List Value)} {z : List Value} {rows : List (List Value)} {olds xs rest : List Value} (h : CR m l sz tt z olds) (ho : olds.length = l * sz) (hx : RowsR m sz rows xs)
    (hg : ∀ q, tt'.get q = if l ≤ q ∧ q < l + rows.length then rows[q - l]? else tt.get q) (hn : n = l + rows.length) : CR m n sz tt' z (olds ++ xs ++ rest) := by
  intro i v hv
  unfold cellAt at hv
  split at hv
  · rename_i hi
    have hsz : 0 < sz := by rcases Nat.eq_zero_or_pos sz with h | h; · rw [h] at hi; omega
                            · exact h
    have hm : i % sz < sz := Nat.mod_lt _ hsz
    have hdm : i / sz * sz + i % sz = i := Nat.div_add_mod' i sz
    have hin : i / sz < n := (Nat.div_lt_iff_lt_mul hsz).2 hi
    rw [rowAt_put hg] at hv
    split at hv
    · rename_i hq
      have hlt : i / sz - l < rows.length := by omega
      rw [List.getElem?_eq_getElem hlt, Option.getD_some] at hv
      obtain ⟨x, h1, h2⟩ := hx.2 (i / sz - l) _ (i % sz) v (List.getElem?_eq_getElem hlt) hm hv
      refine ⟨x, h1, ?_⟩
      have e : (i / sz - l) * sz = i / sz * sz - l * sz := Nat.sub_mul _ _ _
      have e2 : l * sz ≤ i / sz * sz := Nat.mul_le_mul_right _ hq.1
      have e3 : (i / sz - l) * sz + i % sz < xs.length := (List.getElem?_eq_some_iff.1 h2).1
      rw [List.append_assoc, List.getElem?_append_right (by rw [ho]; omega), ho, List.getElem?_append_left (by omega)]
      rw [show i - l * sz = (i / sz - l) * sz + i % sz by omega]
      exact h2
    · rename_i hq
      have hil : i / sz < l := by omega
      have e2 : (i / sz + 1) * sz ≤ l * sz := Nat.mul_le_mul_right _ hil
      rw [Nat.add_mul, Nat.one_mul] at e2
      obtain ⟨x, h1, h2⟩ := h i v (by unfold cellAt; rw [if_pos (by omega)]; exact hv)
      refine ⟨x, h1, ?_⟩
      rw [List.append_assoc, List.getElem?_append_left (by rw [ho]; omega)]; exact h2
  · cases hv
/-- fewer rows -/
theorem CR_le {m : Ren} {n l sz : Nat} {tt : T (List Value)} {z : List Value} {cs : List Value} (h : CR m n sz tt z cs) (hl : l ≤ n) (hc : l * sz ≤ cs.length) : CR m l sz tt z (cs.take (l * sz)) := by
  intro i v hv
  unfold cellAt at hv
  split at hv
  · rename_i hi
    have hin : l * sz ≤ n * sz := Nat.mul_le_mul_right _ hl
    obtain ⟨x, h1, h2⟩ := h i v (by unfold cellAt; rw [if_pos (by omega)]; exact hv)
    exact ⟨x, h1, by rw [List.getElem?_take_of_lt hi]; exact h2⟩
  · cases hv
/-- the rows from q on -/
theorem rows_of {m : Ren} {n sz q : Nat} {tt : T (List Value)} {z : List Value} {cs : List Value} {rows : List (List Value)} (h : CR m n sz tt z cs) (hr : ∀ j row, rows[j]? = some row → row = rowAt tt z (q + j)) (hn : q + rows.length ≤ n) (hc : n * sz ≤ cs.length) :
    RowsR m sz rows ((cs.drop (q * sz)).take (rows.length * sz)) := by
  have h0 : (q + rows.length) * sz ≤ n * sz := Nat.mul_le_mul_right _ hn
  rw [Nat.add_mul] at h0
  refine ⟨by rw [List.length_take, List.length_drop]; omega, fun j row i v hj hi hv => ?_⟩
  have hjl : j < rows.length := (List.getElem?_eq_some_iff.1 hj).1
  have e1 : (j + 1) * sz ≤ rows.length * sz := Nat.mul_le_mul_right _ hjl
  rw [Nat.add_mul, Nat.one_mul] at e1
  have hd := div_at (q := q + j) (c := i) (rs := sz) hi
  have e2 : (q + j) * sz = q * sz + j * sz := Nat.add_mul _ _ _
  obtain ⟨x, h1, h2⟩ := h ((q + j) * sz + i) v (by
    unfold cellAt
    rw [if_pos (by omega), hd.1, hd.2, ← hr j row hj]; exact hv)
  refine ⟨x, h1, ?_⟩
  rw [List.getElem?_take_of_lt (by omega), List.getElem?_drop]
  rw [show q * sz + (j * sz + i) = (q + j) * sz + i by omega]; exact h2

section
variable {ρ : Type} {P : Program} {X : T XT} {ty t : TypeId} {env : T Value} {H : AHeap} {nx : Nat} {r : ρ} {x y z : Operand} {k : Option Value → AHeap → Nat → Option ρ}
theorem ObjR.cr {m : Ren} {s n rs : Nat} {tt : T (List Value)} {z : List Value} {ty : TypeId} {opn : Bool} {o : Obj} (h : ObjR m s (.cells n rs tt z ty opn) o) :
    ∃ cs : List Value, o = .cells cs.toArray ty (0, 0) ∧ cs.length = (n + s) * rs ∧ (opn = false → s = 0) ∧ CR m n rs tt z cs := by
  obtain ⟨cs, h1, h2, h3, h4⟩ := h
  exact ⟨cs.toList, by simpa using h1, h2, h3, fun i v hv => by obtain ⟨x, h5, h6⟩ := h4 i v hv; exact ⟨x, h5, by simpa using h6⟩⟩
theorem ObjR.of_cr {m : Ren} {s n rs : Nat} {tt : T (List Value)} {z : List Value} {ty : TypeId} {opn : Bool} {cs : List Value} (h1 : cs.length = (n + s) * rs) (h2 : opn = false → s = 0) (h3 : CR m n rs tt z cs) :
    ObjR m s (.cells n rs tt z ty opn) (.cells cs.toArray ty (0, 0)) :=
  ⟨cs.toArray, rfl, h1, h2, fun i v hv => by obtain ⟨x, h5, h6⟩ := h3 i v hv; exact ⟨x, h5, by simpa using h6⟩⟩

/-! ### make -/
theorem run_typeInfo {t : TypeId} {i : TypeInfo} (h : P.info? t = some i) (w : World) : (typeInfo t).run P w = .ok i w := by
  simp [typeInfo, h]
theorem run_askRoom (n : Nat) (w : World) : (askRoom n).run P w = .ok () w := by
  unfold askRoom; split
  · rfl
  · rfl
theorem zeros_get (z : List Value) (n i : Nat) (hi : i < n) (hz : i % z.length < z.length) : ((Array.range n).map ((⟨z⟩ : Array Value)[· % (⟨z⟩ : Array Value).size]!))[i]? = z[i % z.length]? := by
  rw [Array.getElem?_map, Array.getElem?_range, if_pos hi]
  have : (⟨z⟩ : Array Value).size = z.length := rfl
  rw [Option.map_some, this, getElem!_pos (⟨z⟩ : Array Value) (i % z.length) hz, List.getElem?_eq_getElem hz]
  rfl
theorem cr_zeros {m : Ren} {n : Nat} {z : List Value} (hb : bareL z = true) : CR m n z.length .lf z ((Array.range (n * z.length)).map ((⟨z⟩ : Array Value)[· % (⟨z⟩ : Array Value).size]!)).toList := by
  intro i v hv
  unfold cellAt at hv
  split at hv
  · rename_i hi
    have hv : z[i % z.length]? = some v := hv
    have hlt := (List.getElem?_eq_some_iff.1 hv).1
    refine ⟨v, ?_, ?_⟩
    · obtain ⟨u, h1, h2⟩ := trL_get (trL_bare m z hb) hv
      rw [hv] at h2; cases h2; exact h1
    · rw [Array.getElem?_toList, zeros_get z _ i hi hlt]; exact hv
  · cases hv

def slK (x : XK) (k : TypeId → Option ρ) : Option ρ := match x with
  | .sl e => k e
  | _ => none
theorem slK_some {x : XK} {k : TypeId → Option ρ} (h : slK x k = some r) : ∃ e, x = .sl e ∧ k e = some r := by
  unfold slK at h; split at h
  · exact ⟨_, rfl, h⟩
  · cases h

noncomputable def wrMakeSlice (X : T XT) (t : TypeId) (x y : Operand) (env : T Value) (H : AHeap) (nx : Nat) (k : Option Value → AHeap → Nat → Option ρ) : Option ρ :=
  getK X t fun xt => slK xt.kd fun e => getK X e fun xe => evNK x env fun l => evNK y env fun c => ckK (Nat.ble l c) (ckK (Nat.ble (Nat.mul xe.byt c) 281474976710656) (ckK (Nat.ble c 9223372036854775807)
    (newK (.cells c xe.sz .lf xe.z e false) H nx fun H' n => k (some (.slice (some ⟨nx, 0, none⟩) l c)) H' n)))
theorem wrMakeSlice_some (hX : TyOK P X) (h : wrMakeSlice X t x y env H nx k = some r) : ∃ ov H' nx', WrOK P (.makeSlice t x y) ty env H nx ov H' nx' ∧ k ov H' nx' = some r := by
  obtain ⟨xt, h1, h⟩ := getK_some h
  obtain ⟨e, h2, h⟩ := slK_some h
  obtain ⟨xe, h3, h⟩ := getK_some h
  obtain ⟨l, hl, h⟩ := evNK_some h
  obtain ⟨c, hc, h⟩ := evNK_some h
  obtain ⟨h4, h⟩ := ckK_some h
  obtain ⟨h5, h⟩ := ckK_some h
  obtain ⟨h6, h⟩ := ckK_some h
  obtain ⟨H', hg, h⟩ := newK_some h
  have h4 := Nat.le_of_ble_eq_true h4
  have h5 : xe.byt * c ≤ 281474976710656 := Nat.le_of_ble_eq_true h5
  have h6 := Nat.le_of_ble_eq_true h6
  obtain ⟨d, hu, hk⟩ := (hX t xt h1).und
  rw [h2] at hk; simp only [KdOK] at hk; subst hk
  have hE := hX e xe h3
  obtain ⟨i, hi, hib, his, hiz⟩ := hE.info
  refine ⟨_, _, _, wr_new hg fun m n a w0 w F he hs => ?_, h⟩
  obtain ⟨k1, hl⟩ := hl.eval he
  obtain ⟨k2, hc⟩ := hc.eval he
  have hlen := hE.len
  refine ⟨0, .cells ((Array.range (c * xe.sz)).map ((⟨xe.z⟩ : Array Value)[· % (⟨xe.z⟩ : Array Value).size]!)) e, ?_, fun m' hm' => ⟨.slice (some ⟨w.heap.size, 0, none⟩) l c, by simp only [tr, hm', Option.isSome_none, Bool.false_eq_true, if_false, Nat.add_zero], fun o ho _ => ?_⟩⟩
  · rw [← hlen]
    have hA := ObjR.of_cr (m := m) (s := 0) (n := c) (rs := xe.z.length) (tt := .lf) (z := xe.z) (ty := e) (opn := false) (cs := ((Array.range (c * xe.z.length)).map ((⟨xe.z⟩ : Array Value)[· % (⟨xe.z⟩ : Array Value).size]!)).toList)
      (by rw [Array.length_toList, Array.size_map, Array.size_range, Nat.add_zero]) (fun _ => rfl) (cr_zeros hE.bz.1)
    rw [Array.toArray_toList] at hA
    exact hA
  · have w1 : IntKind.i64.wrap (l : Int) = l := IntWalk.i64_in _ ⟨by omega, by omega⟩
    have w2 : IntKind.i64.wrap (c : Int) = c := IntWalk.i64_in _ ⟨by omega, by omega⟩
    have hti : (typeInfo e).run P w = .ok i w := run_typeInfo hi w
    unfold execOp; rw [ho]
    have hb : ((xe.byt : Int) * (c : Int)) ≤ 281474976710656 := by rw [← Int.natCast_mul]; omega
    simp only [Instr.makeSlice, Sem.run_bind, run_undX hu, Result.andThen_ok, hl, hc, asInt, asIntOf, Sem.run_pure, hti, w1, w2, hib]
    rw [if_neg]
    · simp only [Sem.run_bind, run_askRoom, Result.andThen_ok, hE.size, Int.toNat_natCast]
      by_cases h0 : c * xe.sz = 0
      · rw [if_pos h0]
        simp only [newRow, h0, Sem.run_pure, Result.andThen_ok, Sem.run_bind, run_newObj, show Array.range 0 = #[] from rfl, Array.map_empty]
      · rw [if_neg h0]
        simp only [newRow, hE.zero, hE.bz.2, Sem.run_pure, Result.andThen_ok, Sem.run_bind, run_newObj]
        
    · have c1 : ¬ ((c : Int) < 0) := by omega
      have c2 : ¬ ((xe.byt : Int) * (c : Int) > 2 ^ 48) := by
        have : (2 : Int) ^ 48 = 281474976710656 := by decide
        rw [this]; omega
      have c3 : ¬ ((l : Int) < 0) := by omega
      have c4 : ¬ ((l : Int) > (c : Int)) := by omega
      rw [decide_eq_false c1, decide_eq_false c2, decide_eq_false c3, decide_eq_false c4]
      decide
end
end Go.Gsl

namespace Go.Gsl
set_option linter.unusedVariables false
section
variable {ρ : Type} {P : Program} {X : T XT} {ty t : TypeId} {env : T Value} {H : AHeap} {nx : Nat} {r : ρ} {x y z : Operand} {k : Option Value → AHeap → Nat → Option ρ}

theorem rows_one {m : Ren} {sz : Nat} {row xs : List Value} (h : trL m row = some xs) (hl : row.length = sz) : RowsR m sz [row] xs := by
  refine ⟨by rw [trL_len h, hl]; simp, fun q row' j v hq hj hv => ?_⟩
  cases q with
  | zero =>
    simp at hq; subst hq
    obtain ⟨x, h1, h2⟩ := trL_get h hv
    exact ⟨x, h1, by simpa using h2⟩
  | succ q => simp at hq

noncomputable def bsK (sz len : Nat) (env : T Value) (ps : List (Nat × Operand)) : T (List Value) → (T (List Value) → Option ρ) → Option ρ :=
  List.rec (motive := fun _ => T (List Value) → (T (List Value) → Option ρ) → Option ρ) (fun tt k => k tt)
    (fun p _ ih tt k => evK p.2 env fun v => ckK (Nat.beq (cellsV v).length sz) (ckK (Nat.ble (Nat.succ p.1) len) (T.put (some (cellsV v)) tt p.1 fun tt' => ih tt' k))) ps
theorem bsK_some {sz len : Nat} {z : List Value} : ∀ {ps : List (Nat × Operand)} {tt : T (List Value)} {k : T (List Value) → Option ρ}, bsK sz len env ps tt k = some r →
    ∃ tt', k tt' = some r ∧ ∀ (m : Ren) (n : Nat) (a : Act), EnvR m env n a.tmps → ∀ cs : List Value, cs.length = len * sz → CR m len sz tt z cs →
      ∃ cs' : List Value, cs'.length = len * sz ∧ CR m len sz tt' z cs' ∧ Instr.fill (fun i => some (i * sz, sz)) ⟨cs⟩ (ps.map fun p => (p.1, a.eval p.2)) = some ⟨cs'⟩
  | [], tt, k, h => ⟨tt, h, fun m n a he cs hl hc => ⟨cs, hl, hc, rfl⟩⟩
  | p :: ps, tt, k, h => by
    obtain ⟨v, h1, h⟩ := evK_some (show evK p.2 env (fun v => ckK (Nat.beq (cellsV v).length sz) (ckK (Nat.ble (Nat.succ p.1) len) (T.put (some (cellsV v)) tt p.1 fun tt' => bsK sz len env ps tt' k))) = some r from h)
    obtain ⟨h2, h⟩ := ckK_some h
    obtain ⟨h3, h⟩ := ckK_some h
    obtain ⟨t1, hg, h⟩ := T.put_spec _ _ _ _ _ h
    obtain ⟨tt', h4, h5⟩ := bsK_some (z := z) h
    have h2 := Nat.eq_of_beq_eq_true h2
    have h3 : p.1 + 1 ≤ len := Nat.le_of_ble_eq_true h3
    refine ⟨tt', h4, fun m n a he cs hl hc => ?_⟩
    obtain ⟨u, h6, h7⟩ := h1 m n a he
    have h8 := tr_cells h6
    have hxl := trL_len h8
    have hin : (p.1 + 1) * sz ≤ len * sz := Nat.mul_le_mul_right _ h3
    rw [Nat.add_mul, Nat.one_mul] at hin
    have h9 := CR_put (at' := p.1) (tt' := t1) hc (rows_one h8 h2) (fun q => by
      rw [hg]
      by_cases hq : q = p.1
      · subst hq; simp
      · rw [if_neg hq, if_neg (by simp; omega)]) (by omega)
    obtain ⟨cs', h10, h11, h12⟩ := h5 m n a he _ (by rw [List.length_append, List.length_append, List.length_take, List.length_drop]; omega) h9
    refine ⟨cs', h10, h11, ?_⟩
    simp only [List.map_cons, Instr.fill, h7]
    rw [if_neg]
    · have := set_over u.cells.toList cs (p.1 * sz) 0 (by omega)
      have e : u.cells.zipIdx.foldl (fun (cs : Array Value) (q : Value × Nat) => cs.setIfInBounds (p.1 * sz + q.2) q.1) ⟨cs⟩ = ⟨cs.take (p.1 * sz) ++ u.cells.toList ++ cs.drop (p.1 * sz + u.cells.toList.length)⟩ := by
        rw [Nat.add_zero] at this
        rw [← this, ← Array.foldl_toList, Array.toList_zipIdx]
      simp only [e]
      exact h12
    · have hs : u.cells.size = sz := by rw [← h2, ← hxl]; rfl
      simp only [Bool.or_eq_true, decide_eq_true_eq, not_or]
      refine ⟨by simp [hs], ?_⟩
      have : (⟨cs⟩ : Array Value).size = cs.length := rfl
      rw [this, hs]; omega

noncomputable def wrBuildSlice (X : T XT) (t : TypeId) (len : Nat) (ps : List (Nat × Operand)) (env : T Value) (H : AHeap) (nx : Nat) (k : Option Value → AHeap → Nat → Option ρ) : Option ρ :=
  getK X t fun xt => slK xt.kd fun e => getK X e fun xe => ckK (Nat.ble (Nat.mul len xe.sz) 16777216) (bsK xe.sz len env ps .lf fun tt => newK (.cells len xe.sz tt xe.z e false) H nx fun H' n => k (some (.slice (some ⟨nx, 0, none⟩) len len)) H' n)
theorem wrBuildSlice_some (hX : TyOK P X) {len : Nat} {ps : Array (Nat × Operand)} (h : wrBuildSlice X t len ps.toList env H nx k = some r) : ∃ ov H' nx', WrOK P (.buildSlice t len ps) ty env H nx ov H' nx' ∧ k ov H' nx' = some r := by
  obtain ⟨xt, h1, h⟩ := getK_some h
  obtain ⟨e, h2, h⟩ := slK_some h
  obtain ⟨xe, h3, h⟩ := getK_some h
  obtain ⟨h4, h⟩ := ckK_some h
  obtain ⟨tt, h, h5⟩ := bsK_some (z := xe.z) h
  obtain ⟨H', hg, h⟩ := newK_some h
  have h4 : len * xe.sz ≤ 16777216 := Nat.le_of_ble_eq_true h4
  obtain ⟨d, hu, hk⟩ := (hX t xt h1).und
  rw [h2] at hk; simp only [KdOK] at hk; subst hk
  have hE := hX e xe h3
  have hlen := hE.len
  refine ⟨_, _, _, wr_new hg fun m n a w0 w F he hs => ?_, h⟩
  have hz := cr_zeros (m := m) (n := len) hE.bz.1
  rw [hlen] at hz
  obtain ⟨cs', h6, h7, h8⟩ := h5 m n a he _ (by rw [Array.length_toList, Array.size_map, Array.size_range]) hz
  refine ⟨0, .cells cs'.toArray e, ObjR.of_cr (by rw [Nat.add_zero]; exact h6) (fun _ => rfl) h7, fun m' hm' => ⟨.slice (some ⟨w.heap.size, 0, none⟩) len len, by simp only [tr, hm', Option.isSome_none, Bool.false_eq_true, if_false, Nat.add_zero], fun o ho _ => ?_⟩⟩
  have e1 : (ps.map fun x : Nat × Operand => (x.1, a.eval x.2)).toList = ps.toList.map fun p => (p.1, a.eval p.2) := by simp
  have hgt : ¬ (len * xe.sz > 2 ^ 24) := by
    have : (2 : Nat) ^ 24 = 16777216 := by decide
    rw [this]; omega
  unfold execOp; rw [ho]
  simp only [Instr.buildSlice, Sem.run_bind, run_undX hu, Result.andThen_ok, hE.size, if_neg hgt, e1]
  by_cases h0 : len * xe.sz = 0
  · rw [if_pos h0]
    have h8' : Instr.fill (fun i => some (i * xe.sz, xe.sz)) #[] (ps.toList.map fun p => (p.1, a.eval p.2)) = some ⟨cs'⟩ := by
      rw [h0, show Array.range 0 = #[] from rfl, Array.map_empty] at h8; exact h8
    simp only [h0, Sem.run_pure, Result.andThen_ok, show Array.range 0 = #[] from rfl, Array.map_empty, h8', newRow, Sem.run_bind, run_newObj]
  · rw [if_neg h0]
    have h8' : Instr.fill (fun i => some (i * xe.sz, xe.sz)) ((Array.range (len * xe.sz)).map ((⟨xe.z⟩ : Array Value)[· % (⟨xe.z⟩ : Array Value).size]!)) (ps.toList.map fun p => (p.1, a.eval p.2)) = some ⟨cs'⟩ := by
      rw [← h8]
    simp only [hE.zero, hE.bz.2, Sem.run_pure, Result.andThen_ok, Sem.run_bind, h8', newRow, run_newObj]

/-! ### append -/
/-- what an append is handed beside the row it appends to -/
structure SrcX (P : Program) (size : Nat) (tx : TypeId) (x : Value) (n : Nat) (news : List Value) (w : World) : Prop where
  kind : (∃ e', P.underlying tx = some (.slice e')) ∨ P.underlying tx = some .string
  len : ∀ w' : World, (Builtin.lenOf x).run P w' = .ok n w'
  cells : (Builtin.firstCells size n x).run P w = .ok news.toArray w
  cellsD : (Builtin.firstCells size n x).run P w.drew = .ok news.toArray w.drew
  newsLen : news.length = n * size
theorem run_app_room {w : World} {t tx ty e ty' : TypeId} {i : TypeInfo} {b off sLen sCap n : Nat} {x : Value} {news cs : List Value} (ht : P.underlying t = some (.slice e)) (hi : P.info? e = some i) (hs : SrcX P i.size tx x n news w) (h1 : ∀ u ∈ news, u.oneCell' = true)
    (hroom : sLen + n ≤ sCap) (hb : w.heap[b]? = some (.cells cs.toArray ty' (0, 0))) (hl : off + sLen * i.size + news.length ≤ cs.length) :
    (Builtin.append_ #[t, tx] ty #[.slice (some ⟨b, off, none⟩) sLen sCap, x]).run P w = .ok (.slice (some ⟨b, off, none⟩) (sLen + n) sCap)
      { w with heap := w.heap.setIfInBounds b (.cells (cs.take (off + sLen * i.size) ++ news ++ cs.drop (off + sLen * i.size + news.length)).toArray ty' (0, 0)) } := by
  have hst := run_storeCells (P := P) (b := b) (off := off + sLen * i.size) (ty' := ty') news 0 cs w h1 hb (by omega)
  simp only [Nat.add_zero] at hst
  rcases hs.kind with ⟨e', hk⟩ | hk <;> simp [Builtin.append_, run_underlying ht, run_underlying hk, sizeOf, typeInfo, hi, hs.len, hroom, hs.cells, addr_add, hst]
theorem run_app_none {w : World} {t tx ty e : TypeId} {i : TypeInfo} {sLen sCap : Nat} {x : Value} (ht : P.underlying t = some (.slice e)) (hi : P.info? e = some i) (hs : SrcX P i.size tx x 0 [] w) (hroom : sLen ≤ sCap) :
    (Builtin.append_ #[t, tx] ty #[.slice none sLen sCap, x]).run P w = .ok (.slice none sLen sCap) w := by
  rcases hs.kind with ⟨e', hk⟩ | hk <;> simp [Builtin.append_, run_underlying ht, run_underlying hk, sizeOf, typeInfo, hi, hs.len, hroom, hs.cells]
theorem run_app_grow {w : World} {t tx ty e : TypeId} {i : TypeInfo} {z : Value} {base : Option Addr} {sLen sCap n : Nat} {olds news : List Value} {x : Value} (ht : P.underlying t = some (.slice e)) (hi : P.info? e = some i) (hz : i.zero = some z)
    (hold : (Builtin.firstCells i.size sLen (.slice base sLen sCap)).run P w.drew = .ok olds.toArray w.drew) (hs : SrcX P i.size tx x n news w)
    (hg : sCap < sLen + n) (h63 : ((sLen + n : Nat) : Int) ≤ 9223372036854775807) (hfit : Builtin.nextslicecap (sLen + n) sCap * i.bytes ≤ 281474976710656) :
    (Builtin.append_ #[t, tx] ty #[.slice base sLen sCap, x]).run P w =
      .ok (.slice (some ⟨w.heap.size, 0, none⟩) (sLen + n) (grownCap w (sLen + n) sCap e))
        (w.drew.alloc (.cells ((olds ++ news).toArray ++ Builtin.zeroCells z.cells (grownCap w (sLen + n) sCap e - (sLen + n))) e)) := by
  have hn : ¬ (sLen + n ≤ sCap) := by omega
  have h63' : ¬ (9223372036854775807 < ((sLen : Int) + (n : Int))) := by omega
  have h48' : ¬ (281474976710656 < Builtin.nextslicecap (sLen + n) sCap * i.bytes) := by omega
  rcases hs.kind with ⟨e', hk⟩ | hk <;>
    (simp [Builtin.append_, run_underlying ht, run_underlying hk, sizeOf, typeInfo, zeroValue, hi, hz, hs.len, hn, h63', h48', Question.forced, hs.cellsD, hold, newRow, grownCap]
     congr 2
     apply Array.ext'
     simp [List.append_assoc])

/-- what is appended: rows that are handed over, or those of a block from q on -/
inductive SrcI where
  | rows (l : List (List Value))
  | blk (tt : T (List Value)) (z : List Value) (q : Nat)
def SrcR (m : Ren) (sz n : Nat) (news : List Value) : SrcI → Prop
  | .rows l => l.length = n ∧ RowsR m sz l news
  | .blk tt z q => ∃ cs nb, CR m nb sz tt z cs ∧ q + n ≤ nb ∧ nb * sz ≤ cs.length ∧ news = (cs.drop (q * sz)).take (n * sz)
def SrcOK (P : Program) (sz : Nat) (tx : TypeId) (y : Operand) (env : T Value) (H : AHeap) (n : Nat) (si : SrcI) : Prop :=
  ∀ (m : Ren) (nn : Nat) (a : Act) (w0 w : World) (F : List Res), EnvR m env nn a.tmps → Sat w0 w ((kH, HEAP H m) :: F) → ∃ news, SrcX P sz tx (a.eval y) n news w ∧ SrcR m sz n news si
noncomputable def byteRows (bs : List UInt8) : (List (List Value) → Option ρ) → Option ρ :=
  List.rec (motive := fun _ => (List (List Value) → Option ρ) → Option ρ) (fun k => k []) (fun b _ ih k => nfK b.toNat fun n => ih fun l => k ([.int .u8 n] :: l)) bs
theorem byteRows_eq : ∀ (bs : List UInt8) (k : List (List Value) → Option ρ), byteRows bs k = k (bs.map fun b => [Value.int .u8 b.toNat])
  | [], k => rfl
  | b :: bs, k => by
    show nfK b.toNat (fun n => byteRows bs fun l => k ([.int .u8 n] :: l)) = _
    rw [nfK_eq, byteRows_eq bs]; rfl
noncomputable def srcK (X : T XT) (sz : Nat) (tx : TypeId) (y : Operand) (env : T Value) (H : AHeap) (k : Nat → SrcI → Option ρ) : Option ρ :=
  getK X tx fun xx => evK y env fun v => match xx.kd with
    | .sl _ => match v with
      | .slice none 0 _ => k 0 (.rows [])
      | .slice (some ⟨b, o, _⟩) n _ => getK H b fun obj => cellsK obj fun nb rs tt z _ _ => ckK (Nat.beq rs sz) (nfK (Nat.div o sz) fun q => ckK (Nat.beq (Nat.mul q sz) o) (ckK (Nat.ble (Nat.add q n) nb) (k n (.blk tt z q))))
      | _ => none
    | .str => match v with
      | .string ⟨⟨bs⟩⟩ => ckK (Nat.beq sz 1) (nfK bs.length fun n => byteRows bs fun l => k n (.rows l))
      | _ => none
    | _ => none
theorem cells_drop {w : World} {b : Nat} {cs : List Value} {ty : TypeId} {o n : Nat} (hb : w.heap[b]? = some (.cells cs.toArray ty (0, 0))) (j : Nat) (v : Value) (hv : ((cs.drop o).take n)[j]? = some v) : w.cell? (Addr.add ⟨b, o, none⟩ j) = some v := by
  rw [addr_add]
  refine cell_of hb ?_
  rw [List.getElem?_toArray]
  have hjn : j < n := by have := (List.getElem?_eq_some_iff.1 hv).1; rw [List.length_take] at this; omega
  rw [List.getElem?_take_of_lt hjn, List.getElem?_drop] at hv
  exact hv
theorem srcK_some (hX : TyOK P X) {sz : Nat} {tx : TypeId} {k : Nat → SrcI → Option ρ} (h : srcK X sz tx y env H k = some r) : ∃ n si, SrcOK P sz tx y env H n si ∧ k n si = some r := by
  obtain ⟨xx, h1, h⟩ := getK_some h
  obtain ⟨v, h2, h⟩ := evK_some h
  obtain ⟨d, hu, hk⟩ := (hX tx xx h1).und
  split at h
  · rename_i e' hkd
    rw [hkd] at hk; simp only [KdOK] at hk; subst hk
    split at h
    · rename_i c
      refine ⟨_, _, fun m nn a w0 w F he hs => ?_, h⟩
      obtain ⟨u, h3, h4⟩ := h2 m nn a he
      simp only [tr, Option.some.injEq] at h3; subst h3
      rw [h4]
      exact ⟨[], ⟨.inl ⟨_, hu⟩, fun _ => rfl, run_firstCells_none w sz 0 0 c, run_firstCells_none w.drew sz 0 0 c, by simp⟩, rfl, by simp, fun q row j v hq => by simp at hq⟩
    · rename_i b o sp n c
      obtain ⟨obj, h3, h⟩ := getK_some h
      obtain ⟨nb, rs, tt, z, ty', opn, rfl, hh⟩ := cellsK_some h
      obtain ⟨h4, hh⟩ := ckK_some hh
      rw [nfK_eq] at hh
      obtain ⟨h5, hh⟩ := ckK_some hh
      obtain ⟨h6, hh⟩ := ckK_some hh
      have h4 := Nat.eq_of_beq_eq_true h4
      have h5 : o / sz * sz = o := Nat.eq_of_beq_eq_true h5
      have h6 : o / sz + n ≤ nb := Nat.le_of_ble_eq_true h6
      subst h4
      refine ⟨_, _, fun m nn a w0 w F he hs => ?_, hh⟩
      obtain ⟨u, h7, h8⟩ := h2 m nn a he
      obtain ⟨b', s, rr, h9, h10, h11⟩ := heap_get hs h3
      simp only [tr, h9, Option.some.injEq] at h7; subst h7
      obtain ⟨cs, rfl, h12, h13, h14⟩ := h10.cr
      have hcl : nb * rs ≤ cs.length := by rw [h12, Nat.add_mul]; omega
      have hnl : ((cs.drop (o / rs * rs)).take (n * rs)).length = n * rs := by
        have : (o / rs + n) * rs ≤ nb * rs := Nat.mul_le_mul_right _ h6
        rw [Nat.add_mul] at this
        rw [List.length_take, List.length_drop]; omega
      have hcell : ∀ j v, ((cs.drop (o / rs * rs)).take (n * rs))[j]? = some v → w.cell? (Addr.add ⟨b', o, none⟩ j) = some v := fun j v hv => by
        rw [h5] at hv; exact cells_drop h11 j v hv
      rw [h8]
      exact ⟨_, ⟨.inl ⟨_, hu⟩, fun _ => rfl, run_firstCells_some w rs n _ n _ _ hnl hcell, run_firstCells_some w.drew rs n _ n _ _ hnl (by simpa using hcell), hnl⟩, cs, nb, h14, h6, hcl, rfl⟩
    · cases h
  · rename_i hkd
    rw [hkd] at hk; simp only [KdOK] at hk; subst hk
    split at h
    · rename_i bs
      obtain ⟨h3, h⟩ := ckK_some h
      have h3 := Nat.eq_of_beq_eq_true h3
      subst h3
      rw [nfK_eq, byteRows_eq] at h
      refine ⟨_, _, fun m nn a w0 w F he hs => ?_, h⟩
      obtain ⟨u, h4, h5⟩ := h2 m nn a he
      simp only [tr, Option.some.injEq] at h4; subst h4
      rw [h5]
      have hl : (byteCells (ByteArray.mk ⟨bs⟩)).length = bs.length := byteCells_length _
      refine ⟨byteCells (ByteArray.mk ⟨bs⟩), ⟨.inr hu, fun _ => rfl, firstCells_string _ w, firstCells_string _ w.drew, by rw [hl, Nat.mul_one]⟩, by simp, by rw [hl]; simp, fun q row j v hq hj hv => ?_⟩
      have hj0 : j = 0 := by omega
      subst hj0
      rw [List.getElem?_map] at hq
      cases hb : bs[q]? with
      | none => rw [hb] at hq; cases hq
      | some c =>
        rw [hb] at hq
        simp only [Option.map_some, Option.some.injEq] at hq
        subst hq
        simp only [List.getElem?_cons_zero, Option.some.injEq] at hv
        subst hv
        refine ⟨_, rfl, ?_⟩
        show (bs.map fun b => Value.int .u8 b.toNat)[q * 1 + 0]? = _
        rw [Nat.mul_one, Nat.add_zero, List.getElem?_map, hb]; rfl
    · cases h
  · cases h
end
end Go.Gsl

namespace Go.Gsl
set_option linter.unusedVariables false
section
variable {ρ : Type} {P : Program} {X : T XT} {ty t : TypeId} {env : T Value} {H : AHeap} {nx : Nat} {r : ρ} {x y z : Operand} {k : Option Value → AHeap → Nat → Option ρ}

noncomputable def rowsFromK (tt : T (List Value)) (z : List Value) (n : Nat) : Nat → (List (List Value) → Option ρ) → Option ρ :=
  Nat.rec (motive := fun _ => Nat → (List (List Value) → Option ρ) → Option ρ) (fun _ k => k []) (fun _ ih q k => rowK tt z q fun row => ih (Nat.succ q) fun l => k (row :: l)) n
theorem rowsFromK_eq {tt : T (List Value)} {z : List Value} : ∀ (n q : Nat) (k : List (List Value) → Option ρ), ∃ l, rowsFromK tt z n q k = k l ∧ l.length = n ∧ ∀ j row, l[j]? = some row → row = rowAt tt z (q + j)
  | 0, q, k => ⟨[], rfl, rfl, fun j row h => by simp at h⟩
  | n + 1, q, k => by
    obtain ⟨l, h1, h2, h3⟩ := rowsFromK_eq (tt := tt) (z := z) n (q + 1) fun l => k (rowAt tt z q :: l)
    refine ⟨rowAt tt z q :: l, ?_, by simp [h2], fun j row h => ?_⟩
    · rw [← h1]
      show rowK tt z q (fun row => rowsFromK tt z n (q + 1) fun l => k (row :: l)) = _
      rw [rowK_eq]
    · cases j with
      | zero => simp at h; exact h.symm
      | succ j => simp at h; rw [show q + (j + 1) = q + 1 + j by omega]; exact h3 j row h
noncomputable def siRowsK (si : SrcI) (n : Nat) (k : List (List Value) → Option ρ) : Option ρ := match si with
  | .rows l => k l
  | .blk tt z q => rowsFromK tt z n q k
theorem siRowsK_some {si : SrcI} {n : Nat} {k : List (List Value) → Option ρ} (h : siRowsK si n k = some r) : ∃ l, k l = some r ∧ ∀ m sz news, SrcR m sz n news si → l.length = n ∧ RowsR m sz l news := by
  cases si with
  | rows l => exact ⟨l, h, fun m sz news hs => hs⟩
  | blk tt z q =>
    obtain ⟨l, h1, h2, h3⟩ := rowsFromK_eq (tt := tt) (z := z) n q k
    refine ⟨l, by rw [← h1]; exact h, fun m sz news hs => ⟨h2, ?_⟩⟩
    obtain ⟨cs, nb, h4, h5, h6, rfl⟩ := hs
    have := rows_of h4 h3 (by rw [h2]; exact h5) h6
    rw [h2] at this
    exact this
/-- the rows are whole, of single cells -/
noncomputable def fullB (sz : Nat) (rows : List (List Value)) : Bool := List.rec (motive := fun _ => Bool) true (fun row _ ih => Bool.rec (motive := fun _ => Bool) false (Bool.rec (motive := fun _ => Bool) false ih (oneL row)) (Nat.beq row.length sz)) rows
theorem fullB_spec {sz : Nat} : ∀ {rows : List (List Value)}, fullB sz rows = true → ∀ row ∈ rows, row.length = sz ∧ ∀ v ∈ row, v.oneCell' = true
  | [], _, row, h => by cases h
  | row' :: rows, hf, row, h => by
    have hf : Bool.rec (motive := fun _ => Bool) false (Bool.rec (motive := fun _ => Bool) false (fullB sz rows) (oneL row')) (Nat.beq row'.length sz) = true := hf
    cases h1 : Nat.beq row'.length sz with
    | false => rw [h1] at hf; cases hf
    | true =>
      rw [h1] at hf
      cases h2 : oneL row' with
      | false => rw [h2] at hf; cases hf
      | true =>
        rw [h2] at hf
        rcases List.mem_cons.1 h with rfl | h
        · exact ⟨Nat.eq_of_beq_eq_true h1, oneL_spec h2⟩
        · exact fullB_spec hf row h
theorem full_one {m : Ren} {sz : Nat} {rows : List (List Value)} {xs : List Value} (hf : fullB sz rows = true) (h : RowsR m sz rows xs) : ∀ u ∈ xs, u.oneCell' = true := by
  intro u hu
  obtain ⟨i, hi, rfl⟩ := List.mem_iff_getElem.1 hu
  have hsz : 0 < sz := by
    rcases Nat.eq_zero_or_pos sz with h0 | h0
    · have := h.1; rw [h0] at this; omega
    · exact h0
  have hq : i / sz < rows.length := (Nat.div_lt_iff_lt_mul hsz).2 (by rw [← h.1]; exact hi)
  have hm : i % sz < sz := Nat.mod_lt _ hsz
  obtain ⟨h1, h2⟩ := fullB_spec hf rows[i / sz] (List.getElem_mem hq)
  obtain ⟨x, h3, h4⟩ := h.2 (i / sz) _ (i % sz) _ (List.getElem?_eq_getElem hq) hm (List.getElem?_eq_getElem (by rw [h1]; exact hm))
  rw [Nat.div_add_mod' i sz, List.getElem?_eq_getElem hi] at h4
  cases h4
  exact tr_one h3 (h2 _ (List.getElem_mem _))

/-- the tree of a new block: l rows of an old one from q on, then what is appended -/
noncomputable def ntK (z0 : List Value) (tt : T (List Value)) (z : List Value) (q l : Nat) (si : SrcI) (n : Nat) (k : T (List Value) → List Value → Option ρ) : Option ρ :=
  Nat.rec (motive := fun _ => Option ρ)
    (match si with
      | .blk tt' z' q' => Nat.rec (motive := fun _ => Option ρ) (k tt' z') (fun _ _ => siRowsK si n fun rows => putRowsK rows .lf 0 fun t2 => k t2 z0) q'
      | .rows l => putRowsK l .lf 0 fun t2 => k t2 z0)
    (fun _ _ => Nat.rec (motive := fun _ => Option ρ) (siRowsK si n fun rows => putRowsK rows tt l fun t2 => k t2 z)
      (fun _ _ => rowsFromK tt z l q fun olds => putRowsK olds .lf 0 fun t1 => siRowsK si n fun rows => putRowsK rows t1 l fun t2 => k t2 z) q) l
theorem CR_nil {m : Ren} {sz : Nat} {tt : T (List Value)} {z cs : List Value} : CR m 0 sz tt z cs := fun i v hv => by
  unfold cellAt at hv
  rw [if_neg (by omega)] at hv; cases hv
theorem CR_more {m : Ren} {n sz : Nat} {tt : T (List Value)} {z cs cs' : List Value} (h : CR m n sz tt z cs) : CR m n sz tt z (cs ++ cs') := fun i v hv => by
  obtain ⟨x, h1, h2⟩ := h i v hv
  exact ⟨x, h1, by rw [List.getElem?_append_left (List.getElem?_eq_some_iff.1 h2).1]; exact h2⟩
theorem ntK_some {z0 : List Value} {tt : T (List Value)} {z : List Value} {q l : Nat} {si : SrcI} {n : Nat} {k : T (List Value) → List Value → Option ρ} (h : ntK z0 tt z q l si n k = some r) :
    ∃ t2 z2, k t2 z2 = some r ∧ ∀ m sz olds news rest, (l = 0 → olds = []) → (l ≠ 0 → SrcR m sz l olds (.blk tt z q)) → SrcR m sz n news si → CR m (l + n) sz t2 z2 (olds ++ news ++ rest) := by
  have empty : ∀ {rows : List (List Value)} {t2 : T (List Value)} (z0 : List Value) {m : Ren} {sz : Nat} {news rest : List Value}, (∀ q, t2.get q = if 0 ≤ q ∧ q < 0 + rows.length then rows[q - 0]? else T.lf.get q) → RowsR m sz rows news → rows.length = n →
      CR m (0 + n) sz t2 z0 ([] ++ news ++ rest) := by
    intro rows t2 z0 m sz news rest hg hr hn
    exact CR_app (l := 0) (tt := .lf) CR_nil (by simp) hr hg (by omega)
  cases l with
  | zero =>
    cases si with
    | rows rs =>
      obtain ⟨t2, hg, h⟩ := putRowsK_some (show putRowsK rs .lf 0 (fun t2 => k t2 z0) = some r from h)
      refine ⟨t2, z0, h, fun m sz olds news rest h0 _ hs => ?_⟩
      rw [h0 rfl]
      exact empty z0 hg hs.2 hs.1
    | blk tt' z' q' =>
      cases q' with
      | zero =>
        refine ⟨tt', z', h, fun m sz olds news rest h0 _ hs => ?_⟩
        rw [h0 rfl]
        obtain ⟨cs, nb, h1, h2, h3, rfl⟩ := hs
        have hnb : n * sz ≤ nb * sz := Nat.mul_le_mul_right _ (by omega)
        have := CR_le h1 (l := n) (by omega) (by omega)
        rw [Nat.zero_mul, List.drop_zero, Nat.zero_add, List.nil_append]
        exact CR_more this
      | succ q' =>
        obtain ⟨rows, h, hr⟩ := siRowsK_some (show siRowsK (.blk tt' z' (q' + 1)) n (fun rows => putRowsK rows .lf 0 fun t2 => k t2 z0) = some r from h)
        obtain ⟨t2, hg, h⟩ := putRowsK_some h
        refine ⟨t2, z0, h, fun m sz olds news rest h0 _ hs => ?_⟩
        rw [h0 rfl]
        obtain ⟨h1, h2⟩ := hr m sz news hs
        exact empty z0 hg h2 h1
  | succ l =>
    cases q with
    | zero =>
      obtain ⟨rows, h, hr⟩ := siRowsK_some (show siRowsK si n (fun rows => putRowsK rows tt (l + 1) fun t2 => k t2 z) = some r from h)
      obtain ⟨t2, hg, h⟩ := putRowsK_some h
      refine ⟨t2, z, h, fun m sz olds news rest _ h1 hs => ?_⟩
      obtain ⟨h2, h3⟩ := hr m sz news hs
      obtain ⟨cs, nb, h4, h5, h6, rfl⟩ := h1 (by omega)
      have hnb : (l + 1) * sz ≤ nb * sz := Nat.mul_le_mul_right _ (by omega)
      have := CR_le h4 (l := l + 1) (by omega) (by omega)
      rw [Nat.zero_mul, List.drop_zero]
      exact CR_app this (by rw [List.length_take]; omega) h3 hg (by omega)
    | succ q =>
      obtain ⟨olds, ho1, ho2, ho3⟩ := rowsFromK_eq (tt := tt) (z := z) (l + 1) (q + 1) fun olds => putRowsK olds .lf 0 fun t1 => siRowsK si n fun rows => putRowsK rows t1 (l + 1) fun t2 => k t2 z
      rw [show ntK z0 tt z (q + 1) (l + 1) si n k = rowsFromK tt z (l + 1) (q + 1) (fun olds => putRowsK olds .lf 0 fun t1 => siRowsK si n fun rows => putRowsK rows t1 (l + 1) fun t2 => k t2 z) from rfl, ho1] at h
      obtain ⟨t1, hg1, h⟩ := putRowsK_some h
      obtain ⟨rows, h, hr⟩ := siRowsK_some h
      obtain ⟨t2, hg, h⟩ := putRowsK_some h
      refine ⟨t2, z, h, fun m sz oldc news rest _ h1 hs => ?_⟩
      obtain ⟨h2, h3⟩ := hr m sz news hs
      obtain ⟨cs, nb, h4, h5, h6, rfl⟩ := h1 (by omega)
      have h7 := rows_of h4 ho3 (by rw [ho2]; exact h5) h6
      rw [ho2] at h7
      have hnb : (q + 1 + (l + 1)) * sz ≤ nb * sz := Nat.mul_le_mul_right _ h5
      rw [Nat.add_mul] at hnb
      have h8 : CR m (l + 1) sz t1 z ((cs.drop ((q + 1) * sz)).take ((l + 1) * sz)) := by
        have := CR_app (l := 0) (n := l + 1) (rest := []) (tt := .lf) (z := z) (olds := []) CR_nil (by simp) h7 hg1 (by rw [ho2]; omega)
        simpa using this
      exact CR_app h8 (by rw [List.length_take, List.length_drop]; omega) h3 hg (by omega)

theorem heap_del {w0 w : World} {F : List Res} {H H' : AHeap} {m : Ren} (hs : Sat w0 w ((kH, HEAP H m) :: F)) (hg : ∀ j o, H'.get j = some o → H.get j = some o) : Sat w0 w ((kH, HEAP H' m) :: F) :=
  hs.ent (Ent.head fun h ⟨h1, h2⟩ => ⟨fun k o hk => h1 k o (hg k o hk), fun k k' o o' x x' a b c d e => h2 k k' o o' x x' (hg k o a) (hg k' o' b) c d e⟩)
theorem zc_len (z : List Value) (n : Nat) : (Builtin.zeroCells ⟨z⟩ n).size = n * z.length := by
  rw [size_zeroCells]; rfl

/-- a new block in the place of the one that is appended to -/
noncomputable def freshK (xe : XT) (e : TypeId) (tt : T (List Value)) (z : List Value) (q l : Nat) (si : SrcI) (n : Nat) (H : AHeap) (nx : Nat) (k : Option Value → AHeap → Nat → Option ρ) : Option ρ :=
  nfK (Nat.add l n) fun need => ckK (Nat.ble (Nat.mul need xe.byt) 140737488355328) (ckK (Nat.ble need 9223372036854775807) (ntK xe.z tt z q l si n fun t2 z2 => newK (.cells need xe.sz t2 z2 e true) H nx fun H' nx' => k (some (.slice (some ⟨nx, 0, none⟩) need need)) H' nx'))
noncomputable def wrAppend (X : T XT) (t tx : TypeId) (x y : Operand) (env : T Value) (H : AHeap) (nx : Nat) (k : Option Value → AHeap → Nat → Option ρ) : Option ρ :=
  getK X t fun xt => slK xt.kd fun e => getK X e fun xe => evK x env fun v => srcK X xe.sz tx y env H fun n si => match v with
    | .slice none l c => ckK (Nat.beq l 0) (ckK (Nat.beq c 0) (Nat.rec (motive := fun _ => Option ρ) (k (some (.slice none 0 0)) H nx) (fun _ _ => freshK xe e .lf xe.z 0 0 si n H nx k) n))
    | .slice (some ⟨b, o, sp⟩) l c => getK H b fun obj => cellsK obj fun nb rs tt z ty' opn => ckK (Nat.beq rs xe.sz) (nfK (Nat.div o rs) fun q => ckK (Nat.beq (Nat.mul q rs) o) (
        Bool.rec (motive := fun _ => Option ρ)
          (ckK (Nat.ble (Nat.add q l) nb) (Bool.rec (motive := fun _ => Option ρ)
            (freshK xe e tt z q l si n H nx k)
            (ckK (Nat.beq o 0) (ckK (Nat.beq c nb) (ckK (Nat.beq ty' e) (ckK (Nat.ble l c) (siRowsK si n fun rows => ckK (fullB rs rows) (nfK (Nat.add l n) fun need => ckK (Nat.ble (Nat.mul need xe.byt) 140737488355328) (ckK (Nat.ble need 9223372036854775807)
              (putRowsK rows tt l fun t2 => T.put none H b fun H1 => newK (.cells need rs t2 z ty' true) H1 nx fun H' nx' => k (some (.slice (some ⟨nx, 0, none⟩) need need)) H' nx'))))))))
            (opn && sp.isNone)))
          (ckK (Nat.ble (Nat.add (Nat.add q l) n) nb) (siRowsK si n fun rows => ckK (fullB rs rows) (putRowsK rows tt (Nat.add q l) fun t2 => T.put (some (.cells nb rs t2 z ty' opn)) H b fun H' => nfK (Nat.add l n) fun need => k (some (.slice (some ⟨b, o, sp⟩) need c)) H' nx)))
          (Nat.ble (Nat.add l n) c)))
    | _ => none

theorem freshK_some {xe : XT} {e : TypeId} {tt : T (List Value)} {z : List Value} {q l : Nat} {si : SrcI} {n : Nat} (h : freshK xe e tt z q l si n H nx k = some r) :
    ∃ t2 z2 H', (∀ j, H'.get j = if j = nx then some (.cells (l + n) xe.sz t2 z2 e true) else H.get j) ∧ k (some (.slice (some ⟨nx, 0, none⟩) (l + n) (l + n))) H' (nx + 1) = some r ∧
      (l + n) * xe.byt ≤ 140737488355328 ∧ l + n ≤ 9223372036854775807 ∧
      ∀ m sz olds news rest, (l = 0 → olds = []) → (l ≠ 0 → SrcR m sz l olds (.blk tt z q)) → SrcR m sz n news si → CR m (l + n) sz t2 z2 (olds ++ news ++ rest) := by
  unfold freshK at h
  rw [nfK_eq] at h
  obtain ⟨h1, h⟩ := ckK_some h
  obtain ⟨h2, h⟩ := ckK_some h
  obtain ⟨t2, z2, h, h3⟩ := ntK_some h
  obtain ⟨H', hg, h⟩ := newK_some h
  exact ⟨t2, z2, H', hg, h, Nat.le_of_ble_eq_true h1, Nat.le_of_ble_eq_true h2, h3⟩
theorem run_call_app {a : Act} {u v : Value} {tx : TypeId} {o : Oper} (ho : o.op = .call { callee := .builtin .append, args := #[x, y], argTypes := #[t, tx] }) (hx : a.eval x = u) (hy : a.eval y = v) (hty : o.type = ty) {w w' : World} {r : Value}
    (h : (Builtin.append_ #[t, tx] ty #[u, v]).run P w = .ok r w') : (execOp a.eval o).run P w = .ok (.value r) w' := by
  unfold execOp
  rw [ho]
  simp [resolve, invoke, builtin, hx, hy, hty, h]
/-- the new block, in the model -/
theorem app_new {t tx e : TypeId} {xe : XT} {l n q : Nat} {tt : T (List Value)} {z : List Value} {si : SrcI} {t2 : T (List Value)} {z2 : List Value} {H' : AHeap} (hE : XTok P e xe) (hu : P.underlying t = some (.slice e))
    (hsi : SrcOK P xe.sz tx y env H n si) (hg : ∀ j, H'.get j = if j = nx then some (.cells (l + n) xe.sz t2 z2 e true) else H.get j) (hb1 : (l + n) * xe.byt ≤ 140737488355328) (hb2 : l + n ≤ 9223372036854775807)
    (hcr : ∀ m sz olds news rest, (l = 0 → olds = []) → (l ≠ 0 → SrcR m sz l olds (.blk tt z q)) → SrcR m sz n news si → CR m (l + n) sz t2 z2 (olds ++ news ++ rest))
    (hv : ∀ (m : Ren) (n' : Nat) (a : Act) (w0 w : World) (F : List Res), EnvR m env n' a.tmps → Sat w0 w ((kH, HEAP H m) :: F) → ∃ base rc olds, a.eval x = .slice base l rc ∧ rc < l + n ∧ (Builtin.firstCells xe.sz l (.slice base l rc)).run P w.drew = .ok olds.toArray w.drew ∧
      olds.length = l * xe.sz ∧ (l = 0 → olds = []) ∧ (l ≠ 0 → SrcR m xe.sz l olds (.blk tt z q))) :
    WrOK P (.call { callee := .builtin .append, args := #[x, y], argTypes := #[t, tx] }) ty env H nx (some (.slice (some ⟨nx, 0, none⟩) (l + n) (l + n))) H' (nx + 1) := by
  obtain ⟨i, hi, hib, his, hiz⟩ := hE.info
  intro m n' a w0 w F he hm hs
  obtain ⟨base, rc, olds, h1, h2, h3, h4, h5, h6⟩ := hv m n' a w0 w F he hs
  obtain ⟨news, h7, h8⟩ := hsi m n' a w0 w F he hs
  have hn := hm nx (Nat.le_refl _)
  have hge := grownCap_ge w (l + n) rc e
  have hz : xe.zero.cells = ⟨xe.z⟩ := hE.bz.2
  have hr := run_app_grow (P := P) (ty := ty) (t := t) (tx := tx) (e := e) (i := i) (z := xe.zero) (base := base) (sLen := l) (sCap := rc) (n := n) (olds := olds) (news := news) (x := a.eval y) (w := w) hu hi hiz (by rw [his]; exact h3) (by rw [his]; exact h7) h2 (by omega)
    (growslice_fits h2 (by rw [hib]; exact hb1))
  obtain ⟨rest, hrest⟩ : ∃ rest : List Value, rest = (Builtin.zeroCells xe.zero.cells (grownCap w (l + n) rc e - (l + n))).toList := ⟨_, rfl⟩
  have hobj : ObjR m (grownCap w (l + n) rc e - (l + n)) (.cells (l + n) xe.sz t2 z2 e true) (.cells (olds ++ news ++ rest).toArray e (0, 0)) := by
    refine ObjR.of_cr ?_ (fun h => by cases h) (hcr m xe.sz olds news rest h5 h6 h8)
    rw [List.length_append, List.length_append, h4, h7.newsLen, hrest, Array.length_toList, hz, zc_len, hE.len, Nat.add_mul, Nat.add_mul]
  have hs2 := heap_new (k := nx) (sat_drew hs) hn (heap_free hs hn) hg hobj
  refine ⟨_, _, Ren.ext_upd, hm.upd, hs2, _, ⟨.slice (some ⟨w.heap.size, 0, none⟩) (l + n) (grownCap w (l + n) rc e), ?_, rfl⟩, fun o ho hty => ?_⟩
  · have : (m.upd nx (w.drew.heap.size, grownCap w (l + n) rc e - (l + n))) nx = some (w.heap.size, grownCap w (l + n) rc e - (l + n)) := by rw [Ren.upd_ap, if_pos rfl]; rfl
    simp only [tr, this, Option.isSome_none, Bool.false_eq_true, if_false]
    rw [Nat.add_sub_cancel' hge]
  · rw [run_call_app ho h1 rfl hty hr]
    congr 1
    have : (olds ++ news).toArray ++ Builtin.zeroCells xe.zero.cells (grownCap w (l + n) rc e - (l + n)) = (olds ++ news ++ rest).toArray := by rw [hrest]; simp
    rw [this]
    rfl
theorem EvOK.slice_none {l c : Nat} (h : EvOK x env (.slice none l c)) {m : Ren} {n : Nat} {a : Act} (he : EnvR m env n a.tmps) : a.eval x = .slice none l c := by
  obtain ⟨u, h1, h2⟩ := h m n a he
  simp only [tr, Option.some.injEq] at h1; subst h1
  exact h2
theorem EvOK.slice_some {b o : Nat} {sp : Option Nat} {l c : Nat} (h : EvOK x env (.slice (some ⟨b, o, sp⟩) l c)) {m : Ren} {n : Nat} {a : Act} (he : EnvR m env n a.tmps) {b' s : Nat} (hb : m b = some (b', s)) :
    a.eval x = .slice (some ⟨b', o, none⟩) l (if sp.isSome then c else c + s) := by
  obtain ⟨u, h1, h2⟩ := h m n a he
  simp only [tr, hb, Option.some.injEq] at h1; subst h1
  exact h2
theorem wrAppend_some (hX : TyOK P X) {tx : TypeId} (h : wrAppend X t tx x y env H nx k = some r) :
    ∃ ov H' nx', WrOK P (.call { callee := .builtin .append, args := #[x, y], argTypes := #[t, tx] }) ty env H nx ov H' nx' ∧ k ov H' nx' = some r := by
  obtain ⟨xt, h1, h⟩ := getK_some h
  obtain ⟨e, h2, h⟩ := slK_some h
  obtain ⟨xe, h3, h⟩ := getK_some h
  obtain ⟨v, h4, h⟩ := evK_some h
  obtain ⟨n, si, hsi, h⟩ := srcK_some hX h
  obtain ⟨d, hu, hk⟩ := (hX t xt h1).und
  rw [h2] at hk; simp only [KdOK] at hk; subst hk
  have hE := hX e xe h3
  obtain ⟨i, hi, hib, his, hiz⟩ := hE.info
  split at h
  · rename_i l c _
    obtain ⟨hl, h⟩ := ckK_some h
    obtain ⟨hc, h⟩ := ckK_some h
    have hl := Nat.eq_of_beq_eq_true hl
    have hc := Nat.eq_of_beq_eq_true hc
    subst hl; subst hc
    cases n with
    | zero =>
      refine ⟨_, _, _, fun m n' a w0 w F he hm hs => ?_, (show k (some (.slice none 0 0)) H nx = some r from h)⟩
      obtain ⟨news, h5, h6⟩ := hsi m n' a w0 w F he hs
      have h7 : news = [] := List.eq_nil_of_length_eq_zero (by rw [h5.newsLen, Nat.zero_mul])
      subst h7
      refine ⟨m, w, Ren.ext_refl m _, hm, hs, _, ⟨.slice none 0 0, rfl, rfl⟩, fun o ho hty => run_call_app ho (h4.slice_none he) rfl hty (run_app_none hu hi (by rw [his]; exact h5) (Nat.le_refl _))⟩
    | succ n =>
      obtain ⟨t2, z2, H', hg, h, hb1, hb2, hcr⟩ := freshK_some (show freshK xe e .lf xe.z 0 0 si (n + 1) H nx k = some r from h)
      refine ⟨_, _, _, app_new hE hu hsi hg hb1 hb2 hcr fun m n' a w0 w F he hs => ?_, h⟩
      exact ⟨none, 0, [], h4.slice_none he, by omega, run_firstCells_none w.drew _ 0 0 0, by simp, fun _ => rfl, fun h => absurd rfl h⟩
  · rename_i b o sp l c _
    obtain ⟨obj, h5, h⟩ := getK_some h
    obtain ⟨nb, rs, tt, z, ty', opn, rfl, h'⟩ := cellsK_some h
    clear h
    obtain ⟨h6, h'⟩ := ckK_some h'
    rw [nfK_eq] at h'
    obtain ⟨h7, h'⟩ := ckK_some h'
    have h6 := Nat.eq_of_beq_eq_true h6
    have h7 : o / rs * rs = o := Nat.eq_of_beq_eq_true h7
    subst h6
    cases hroom : Nat.ble (Nat.add l n) c with
    | true =>
      rw [hroom] at h'
      have hroom : l + n ≤ c := Nat.le_of_ble_eq_true hroom
      obtain ⟨h8, h'⟩ := ckK_some (show ckK (Nat.ble (Nat.add (Nat.add (Nat.div o xe.sz) l) n) nb) (siRowsK si n fun rows => ckK (fullB xe.sz rows) (putRowsK rows tt (Nat.add (Nat.div o xe.sz) l) fun t2 => T.put (some (.cells nb xe.sz t2 z ty' opn)) H b fun H' => nfK (Nat.add l n) fun need => k (some (.slice (some ⟨b, o, sp⟩) need c)) H' nx)) = some r from h')
      obtain ⟨rows, h', h9⟩ := siRowsK_some h'
      obtain ⟨h10, h'⟩ := ckK_some h'
      obtain ⟨t2, hg, h'⟩ := putRowsK_some h'
      obtain ⟨H', hgH, h'⟩ := T.put_spec _ _ _ _ _ h'
      rw [nfK_eq] at h'
      have h8 : o / xe.sz + l + n ≤ nb := Nat.le_of_ble_eq_true h8
      refine ⟨_, _, _, fun m n' a w0 w F he hm hs => ?_, h'⟩
      obtain ⟨news, h11, h12⟩ := hsi m n' a w0 w F he hs
      obtain ⟨h13, h14⟩ := h9 m xe.sz news h12
      obtain ⟨b', s, rr, h15, h16, h17⟩ := heap_get hs h5
      obtain ⟨cs, rfl, h18, h19, h20⟩ := h16.cr
      have h21 := h4.slice_some he h15
      have hq : o + l * xe.sz = (o / xe.sz + l) * xe.sz := by rw [Nat.add_mul, h7]
      have hbnd : (o / xe.sz + l) * xe.sz + news.length ≤ cs.length := by
        have : (o / xe.sz + l + n) * xe.sz ≤ nb * xe.sz := Nat.mul_le_mul_right _ h8
        rw [Nat.add_mul (o / xe.sz + l)] at this
        rw [h11.newsLen, h18, Nat.add_mul nb]; omega
      have h22 := run_app_room (P := P) (t := t) (tx := tx) (ty := ty) (e := e) (i := i) (b := b') (off := o) (sLen := l) (sCap := if sp.isSome then c else c + s) (n := n) (x := a.eval y) (news := news) (cs := cs) (ty' := ty') hu hi (by rw [his]; exact h11) (full_one h10 h14)
        (by split <;> omega) h17 (by rw [his, hq]; exact hbnd)
      rw [his, hq] at h22
      have h23 : CR m nb xe.sz t2 z (cs.take ((o / xe.sz + l) * xe.sz) ++ news ++ cs.drop ((o / xe.sz + l) * xe.sz + news.length)) := CR_put h20 h14 hg hbnd
      have h24 := heap_put hs h5 h15 hgH (ObjR.of_cr (m := m) (s := s) (opn := opn) (ty := ty') (by
        rw [List.length_append, List.length_append, List.length_take, List.length_drop]; omega) h19 h23)
      refine ⟨m, _, Ren.ext_refl m _, hm, h24, _, ⟨.slice (some ⟨b', o, none⟩) (l + n) (if sp.isSome then c else c + s), by simp only [tr, h15]; rfl, rfl⟩, fun o' ho hty => run_call_app ho h21 rfl hty h22⟩
    | false =>
      rw [hroom] at h'
      have hroom : c < l + n := by
        rw [nat_ble_decide] at hroom
        have := of_decide_eq_false hroom
        have : ¬ (l + n ≤ c) := this
        omega
      obtain ⟨h8, h'⟩ := ckK_some (show ckK (Nat.ble (Nat.add (Nat.div o xe.sz) l) nb) (Bool.rec (motive := fun _ => Option ρ)
            (freshK xe e tt z (Nat.div o xe.sz) l si n H nx k)
            (ckK (Nat.beq o 0) (ckK (Nat.beq c nb) (ckK (Nat.beq ty' e) (ckK (Nat.ble l c) (siRowsK si n fun rows => ckK (fullB xe.sz rows) (nfK (Nat.add l n) fun need => ckK (Nat.ble (Nat.mul need xe.byt) 140737488355328) (ckK (Nat.ble need 9223372036854775807)
              (putRowsK rows tt l fun t2 => T.put none H b fun H1 => newK (.cells need xe.sz t2 z ty' true) H1 nx fun H' nx' => k (some (.slice (some ⟨nx, 0, none⟩) need need)) H' nx'))))))))
            (opn && sp.isNone)) = some r from h')
      have h8 : o / xe.sz + l ≤ nb := Nat.le_of_ble_eq_true h8
      -- the old row, in the model
      have hold : ∀ (m : Ren) (w0 w : World) (F : List Res), Sat w0 w ((kH, HEAP H m) :: F) → ∃ b' s, m b = some (b', s) ∧ (opn = false → s = 0) ∧ ∃ olds : List Value, olds.length = l * xe.sz ∧ (l = 0 → olds = []) ∧ (l ≠ 0 → SrcR m xe.sz l olds (.blk tt z (o / xe.sz))) ∧
          ∀ rc, (Builtin.firstCells xe.sz l (.slice (some ⟨b', o, none⟩) l rc)).run P w.drew = .ok olds.toArray w.drew := fun m w0 w F hs => by
        obtain ⟨b', s, rr, h15, h16, h17⟩ := heap_get hs h5
        obtain ⟨cs, rfl, h18, h19, h20⟩ := h16.cr
        have hnb : (o / xe.sz + l) * xe.sz ≤ nb * xe.sz := Nat.mul_le_mul_right _ h8
        rw [Nat.add_mul, h7] at hnb
        have hcs : cs.length = nb * xe.sz + s * xe.sz := by rw [h18, Nat.add_mul]
        have hlen : ((cs.drop o).take (l * xe.sz)).length = l * xe.sz := by rw [List.length_take, List.length_drop]; omega
        refine ⟨b', s, h15, h19, (cs.drop o).take (l * xe.sz), hlen, fun h => by subst h; simp, fun _ => ⟨cs, nb, h20, h8, by omega, by rw [h7]⟩, fun rc => ?_⟩
        refine run_firstCells_some w.drew xe.sz l _ l rc _ hlen fun j u hj => ?_
        have := cells_drop h17 j u hj
        simpa using this
      cases hop : opn && sp.isNone with
      | false =>
        rw [hop] at h'
        obtain ⟨t2, z2, H', hg, h, hb1, hb2, hcr⟩ := freshK_some (show freshK xe e tt z (o / xe.sz) l si n H nx k = some r from h')
        refine ⟨_, _, _, app_new hE hu hsi hg hb1 hb2 hcr fun m n' a w0 w F he hs => ?_, h⟩
        obtain ⟨b', s, h9, h10, olds, h11, h12, h13, h14⟩ := hold m w0 w F hs
        refine ⟨_, _, olds, h4.slice_some he h9, ?_, h14 _, h11, h12, h13⟩
        cases sp with
        | some q => exact hroom
        | none =>
          have : opn = false := by simpa using hop
          rw [h10 this]; simpa using hroom
      | true =>
        rw [hop] at h'
        obtain ⟨h9, h'⟩ := ckK_some (show ckK (Nat.beq o 0) (ckK (Nat.beq c nb) (ckK (Nat.beq ty' e) (ckK (Nat.ble l c) (siRowsK si n fun rows => ckK (fullB xe.sz rows) (nfK (Nat.add l n) fun need => ckK (Nat.ble (Nat.mul need xe.byt) 140737488355328) (ckK (Nat.ble need 9223372036854775807)
              (putRowsK rows tt l fun t2 => T.put none H b fun H1 => newK (.cells need xe.sz t2 z ty' true) H1 nx fun H' nx' => k (some (.slice (some ⟨nx, 0, none⟩) need need)) H' nx'))))))) = some r from h')
        obtain ⟨h10, h'⟩ := ckK_some h'
        obtain ⟨hte, h'⟩ := ckK_some h'
        obtain ⟨h11, h'⟩ := ckK_some h'
        obtain ⟨rows, h', h12⟩ := siRowsK_some h'
        obtain ⟨h13, h'⟩ := ckK_some h'
        rw [nfK_eq] at h'
        obtain ⟨h14, h'⟩ := ckK_some h'
        obtain ⟨h15, h'⟩ := ckK_some h'
        obtain ⟨t2, hg, h'⟩ := putRowsK_some h'
        obtain ⟨H1, hg1, h'⟩ := T.put_spec _ _ _ _ _ h'
        obtain ⟨H', hg2, hfin⟩ := newK_some h'
        clear h'
        have hte := Nat.eq_of_beq_eq_true hte
        subst hte
        have h9 := Nat.eq_of_beq_eq_true h9
        have h10 := Nat.eq_of_beq_eq_true h10
        have h11 := Nat.le_of_ble_eq_true h11
        have h14 : (l + n) * xe.byt ≤ 140737488355328 := Nat.le_of_ble_eq_true h14
        have h15 : l + n ≤ 9223372036854775807 := Nat.le_of_ble_eq_true h15
        subst h9; subst h10
        simp only [Bool.and_eq_true] at hop
        obtain ⟨rfl, hsp⟩ := hop
        have hsp : sp = none := by simpa using hsp
        subst hsp
        have hgH : ∀ j, H'.get j = if j = nx then some (.cells (l + n) xe.sz t2 z ty' true) else if j = b then none else H.get j := fun j => by rw [hg2, hg1]; rfl
        refine ⟨_, _, _, fun m n' a w0 w F he hm hs => ?_, hfin⟩
        obtain ⟨news, h16, h17⟩ := hsi m n' a w0 w F he hs
        obtain ⟨h18, h19⟩ := h12 m xe.sz news h17
        obtain ⟨b', s, rr, h20, h21, h22⟩ := heap_get hs h5
        obtain ⟨cs, rfl, h23, h24, h25⟩ := h21.cr
        have h26 : a.eval x = .slice (some ⟨b', 0, none⟩) l (c + s) := h4.slice_some he h20
        have hn := hm nx (Nat.le_refl _)
        have hlc : l * xe.sz ≤ c * xe.sz := Nat.mul_le_mul_right _ h11
        have hcs : cs.length = c * xe.sz + s * xe.sz := by rw [h23, Nat.add_mul]
        have hnl : (l + n) * xe.sz = l * xe.sz + n * xe.sz := Nat.add_mul _ _ _
        by_cases hin : l + n ≤ c + s
        · have h27 := run_app_room (P := P) (t := t) (tx := tx) (ty := ty) (e := ty') (i := i) (b := b') (off := 0) (sLen := l) (sCap := c + s) (n := n) (x := a.eval y) (news := news) (cs := cs) (ty' := ty') hu hi (by rw [his]; exact h16) (full_one h13 h19) hin h22 (by
            rw [his, h16.newsLen]
            have : (l + n) * xe.sz ≤ (c + s) * xe.sz := Nat.mul_le_mul_right _ hin
            rw [Nat.add_mul c] at this
            omega)
          rw [his, Nat.zero_add] at h27
          have hle : (l + n) * xe.sz ≤ (c + s) * xe.sz := Nat.mul_le_mul_right _ hin
          rw [Nat.add_mul c] at hle
          have h28 : CR m (l + n) xe.sz t2 z (cs.take (l * xe.sz) ++ news ++ cs.drop (l * xe.sz + news.length)) := CR_app (CR_le h25 h11 (by omega)) (by rw [List.length_take]; omega) h19 hg (by rw [h18])
          have h29 := heap_move (k := b) (k' := nx) (s' := c + s - (l + n)) hs h5 h20 hn hgH (ObjR.of_cr (m := m) (s := c + s - (l + n)) (opn := true) (ty := ty') (by
            rw [List.length_append, List.length_append, List.length_take, List.length_drop, h16.newsLen, Nat.add_sub_cancel' hin, Nat.add_mul c]; omega) (fun h => by cases h) h28)
          refine ⟨_, _, Ren.ext_upd, hm.upd, h29, _, ⟨.slice (some ⟨b', 0, none⟩) (l + n) (c + s), ?_, rfl⟩, fun o' ho hty => run_call_app ho h26 rfl hty h27⟩
          have : (m.upd nx (b', c + s - (l + n))) nx = some (b', c + s - (l + n)) := by rw [Ren.upd_ap, if_pos rfl]
          simp only [tr, this, Option.isSome_none, Bool.false_eq_true, if_false]
          rw [show Nat.add l n = l + n from rfl, Nat.add_sub_cancel' hin]
        · have hs2 : Sat w0 w ((kH, HEAP H1 m) :: F) := heap_del hs fun j o hj => by
            rw [hg1] at hj
            by_cases hjb : j = b
            · rw [if_pos hjb] at hj; cases hj
            · rw [if_neg hjb] at hj; exact hj
          obtain ⟨b2, s2, h30, h31, olds, h32, h33, h34, h35⟩ := hold m w0 w F hs
          rw [h20] at h30; cases h30
          have hge := grownCap_ge w (l + n) (c + s) ty'
          have hz : xe.zero.cells = ⟨xe.z⟩ := hE.bz.2
          have hr := run_app_grow (P := P) (ty := ty) (t := t) (tx := tx) (e := ty') (i := i) (z := xe.zero) (base := some ⟨b', 0, none⟩) (sLen := l) (sCap := c + s) (n := n) (olds := olds) (news := news) (x := a.eval y) (w := w) hu hi hiz (by rw [his]; exact h35 _) (by rw [his]; exact h16) (by omega) (by omega)
            (growslice_fits (by omega) (by rw [hib]; exact h14))
          obtain ⟨rest, hrest⟩ : ∃ rest : List Value, rest = (Builtin.zeroCells xe.zero.cells (grownCap w (l + n) (c + s) ty' - (l + n))).toList := ⟨_, rfl⟩
          have hold2 : CR m l xe.sz tt z olds := by
            cases l with
            | zero => exact CR_nil
            | succ l =>
              obtain ⟨cs2, nb2, h36, h37, h38, rfl⟩ := h34 (by omega)
              have h0 : 0 / xe.sz = 0 := Nat.zero_div _
              rw [h0, Nat.zero_mul, List.drop_zero]
              rw [h0, Nat.zero_add] at h37
              have : (l + 1) * xe.sz ≤ nb2 * xe.sz := Nat.mul_le_mul_right _ h37
              exact CR_le h36 h37 (by omega)
          have hobj : ObjR m (grownCap w (l + n) (c + s) ty' - (l + n)) (.cells (l + n) xe.sz t2 z ty' true) (.cells (olds ++ news ++ rest).toArray ty' (0, 0)) := by
            refine ObjR.of_cr ?_ (fun h => by cases h) (CR_app hold2 h32 h19 hg (by rw [h18]))
            rw [List.length_append, List.length_append, h32, h16.newsLen, hrest, Array.length_toList, hz, zc_len, hE.len, Nat.add_mul, Nat.add_mul]
          have hs3 := heap_new (k := nx) (sat_drew hs2) hn (heap_free hs2 hn) (fun j => by rw [hg2]; rfl) hobj
          refine ⟨_, _, Ren.ext_upd, hm.upd, hs3, _, ⟨.slice (some ⟨w.heap.size, 0, none⟩) (l + n) (grownCap w (l + n) (c + s) ty'), ?_, rfl⟩, fun o ho hty => ?_⟩
          · have : (m.upd nx (w.drew.heap.size, grownCap w (l + n) (c + s) ty' - (l + n))) nx = some (w.heap.size, grownCap w (l + n) (c + s) ty' - (l + n)) := by rw [Ren.upd_ap, if_pos rfl]; rfl
            simp only [tr, this, Option.isSome_none, Bool.false_eq_true, if_false]
            rw [show Nat.add l n = l + n from rfl, Nat.add_sub_cancel' hge]
          · rw [run_call_app ho h26 rfl hty hr]
            congr 1
            have : (olds ++ news).toArray ++ Builtin.zeroCells xe.zero.cells (grownCap w (l + n) (c + s) ty' - (l + n)) = (olds ++ news ++ rest).toArray := by rw [hrest]; simp
            rw [this]
            rfl
  · cases h
end
end Go.Gsl

namespace Go.Gsl
set_option linter.unusedVariables false
section
variable {ρ : Type} {P : Program} {X : T XT} {ty t : TypeId} {env : T Value} {H : AHeap} {nx : Nat} {r : ρ} {x y z : Operand} {k : Option Value → AHeap → Nat → Option ρ}

/-! ### entries -/
theorem run_setMap {w : World} {b : Nat} {es es' : Array MapEntry} {c c' : Nat} (hb : w.heap[b]? = some (.map es c)) : (setObj b (.map es' c')).run P w = .ok () { w with heap := w.heap.setIfInBounds b (.map es' c') } := by simp [setObj, Sem.run, hb]
noncomputable def modEK (v : Value) (key : Value) (es : List MapEntry) : Nat → (List MapEntry → Option ρ) → Option ρ :=
  List.rec (motive := fun _ => Nat → (List MapEntry → Option ρ) → Option ρ) (fun _ _ => none) (fun e es ih i k => Nat.rec (motive := fun _ => Option ρ) (k (⟨key, v, e.born⟩ :: es)) (fun j _ => ih j fun l => k (e :: l)) i) es
theorem modEK_some {v key : Value} : ∀ {es : List MapEntry} {i : Nat} {k : List MapEntry → Option ρ}, modEK v key es i k = some r →
    ∃ es', k es' = some r ∧ ∀ m xs kv vv, EntR m es xs → tr m key = some kv → tr m v = some vv → EntR m es' (xs.modify i fun e => { e with key := kv, val := vv }) ∧ i < xs.length
  | [], i, k, h => by cases h
  | e :: es, 0, k, h => ⟨_, h, fun m xs kv vv hx hk hv => by
      obtain ⟨k1, v1, l', h1, h2, rfl, h4⟩ := hx
      exact ⟨⟨kv, vv, l', hk, hv, by simp, h4⟩, by simp⟩⟩
  | e :: es, i + 1, k, h => by
    obtain ⟨es', h1, h2⟩ := modEK_some (show modEK v key es i (fun l => k (e :: l)) = some r from h)
    refine ⟨_, h1, fun m xs kv vv hx hk hv => ?_⟩
    obtain ⟨k1, v1, l', h3, h4, rfl, h5⟩ := hx
    obtain ⟨h6, h7⟩ := h2 m l' kv vv h5 hk hv
    exact ⟨⟨k1, v1, _, h3, h4, by simp, h6⟩, by simpa using h7⟩
noncomputable def delEK (es : List MapEntry) : Nat → (List MapEntry → Option ρ) → Option ρ :=
  List.rec (motive := fun _ => Nat → (List MapEntry → Option ρ) → Option ρ) (fun _ _ => none) (fun e es ih i k => Nat.rec (motive := fun _ => Option ρ) (k es) (fun j _ => ih j fun l => k (e :: l)) i) es
theorem delEK_some : ∀ {es : List MapEntry} {i : Nat} {k : List MapEntry → Option ρ}, delEK es i k = some r → ∃ es', k es' = some r ∧ ∀ m xs, EntR m es xs → EntR m es' (xs.eraseIdx i)
  | [], i, k, h => by cases h
  | e :: es, 0, k, h => ⟨_, h, fun m xs hx => by
      obtain ⟨k1, v1, l', h1, h2, rfl, h4⟩ := hx
      exact h4⟩
  | e :: es, i + 1, k, h => by
    obtain ⟨es', h1, h2⟩ := delEK_some (show delEK es i (fun l => k (e :: l)) = some r from h)
    refine ⟨_, h1, fun m xs hx => ?_⟩
    obtain ⟨k1, v1, l', h3, h4, rfl, h5⟩ := hx
    exact ⟨k1, v1, _, h3, h4, by simp, h2 m l' h5⟩
theorem EntR.snoc {m : Ren} {key v kv vv : Value} {c : Nat} (hk : tr m key = some kv) (hv : tr m v = some vv) : ∀ {es xs : List MapEntry}, EntR m es xs → EntR m (es ++ [⟨key, v, c⟩]) (xs ++ [⟨kv, vv, c⟩])
  | [], xs, h => by simp only [EntR] at h; subst h; exact ⟨kv, vv, [], hk, hv, rfl, rfl⟩
  | e :: es, xs, h => by
    obtain ⟨k1, v1, l', h3, h4, rfl, h5⟩ := h
    exact ⟨k1, v1, _, h3, h4, by simp, h5.snoc hk hv⟩
theorem EntR.get {m : Ren} : ∀ {es xs : List MapEntry} {i : Nat} {e : MapEntry}, EntR m es xs → es[i]? = some e → ∃ kv vv, tr m e.key = some kv ∧ tr m e.val = some vv ∧ xs[i]? = some ⟨kv, vv, e.born⟩
  | [], xs, i, e, h, he => by simp at he
  | e' :: es, xs, 0, e, h, he => by
    obtain ⟨k1, v1, l', h3, h4, rfl, h5⟩ := h
    simp at he; subst he
    exact ⟨k1, v1, h3, h4, rfl⟩
  | e' :: es, xs, i + 1, e, h, he => by
    obtain ⟨k1, v1, l', h3, h4, rfl, h5⟩ := h
    simp at he
    simpa using h5.get he
/-- the key that stands is the one that comes -/
theorem run_stays {kd : XK} {a b : Value} {w : World} (h : CellEq kd a b true) : (Instr.keyThatStays b a).run P w = .ok a w := by
  have : Instr.sameBits 10000 b a = true := by
    rcases h with ⟨k, u, v, _, rfl, rfl, h⟩ | ⟨u, v, _, rfl, rfl, h⟩ | ⟨u, v, _, rfl, rfl, h⟩
    · have := of_decide_eq_true h.symm
      subst this
      simp [Instr.sameBits]
    · have := of_decide_eq_true h.symm
      subst this
      simp only [Instr.sameBits, ba_eq]; simp
    · have : u = v := by simpa using h.symm
      subst this
      simp [Instr.sameBits]
  simp [Instr.keyThatStays, this]
noncomputable def wrMapPut (X : T XT) (t : TypeId) (x y z : Operand) (env : T Value) (H : AHeap) (nx : Nat) (k : Option Value → AHeap → Nat → Option ρ) : Option ρ :=
  getK X t fun xt => mapK xt.kd fun kt _ => getK X kt fun xk => evK y env fun key => keyK xk.kd key (evK z env fun v => evK x env fun mv => match mv with
    | .map (some b) => getK H b fun obj => mobjK obj fun es c => findK xk.kd key es 0 fun q => match q with
      | some (i, _) => modEK v key es i fun es' => T.put (some (.map es' c)) H b fun H' => k none H' nx
      | none => nfK (Nat.succ c) fun c' => T.put (some (.map (es ++ [⟨key, v, c⟩]) c')) H b fun H' => k none H' nx
    | _ => none)
theorem wrMapPut_some (hX : TyOK P X) (h : wrMapPut X t x y z env H nx k = some r) : ∃ ov H' nx', WrOK P (.mapUpdate t x y z) ty env H nx ov H' nx' ∧ WrOK P (.insert t x y z) ty env H nx ov H' nx' ∧ k ov H' nx' = some r := by
  obtain ⟨xt, h1, h⟩ := getK_some h
  obtain ⟨kt, et, h2, h⟩ := mapK_some h
  obtain ⟨xk, h3, h⟩ := getK_some h
  obtain ⟨key, h5, h⟩ := evK_some h
  obtain ⟨h, ⟨d, hd⟩, hb, hck⟩ := keyK_some (P := P) h
  obtain ⟨v, h6, h⟩ := evK_some h
  obtain ⟨mv, h7, h⟩ := evK_some h
  obtain ⟨d', hu, hk⟩ := (hX t xt h1).und
  rw [h2] at hk; simp only [KdOK] at hk; subst hk
  have hku := keyD_und (hX kt xk h3) hd
  split at h
  · rename_i b
    obtain ⟨obj, h8, h⟩ := getK_some h
    obtain ⟨es, c, rfl, h'⟩ := mobjK_some h
    clear h
    obtain ⟨q, hq, _, _, h9, h10⟩ := findK_some hd h'
    have key2 : ∃ es' c' H', (∀ j, H'.get j = if j = b then some (.map es' c') else H.get j) ∧ k none H' nx = some r ∧ ∀ m xs vv (w : World), EntR m es xs → tr m v = some vv → ∀ b' : Nat, w.heap[b']? = some (.map xs.toArray c) →
        ∃ ys : List MapEntry, EntR m es' ys ∧ ∀ kk vk : Value, key = kk → vv = vk → (Instr.mapUpdate t (.map (some b')) kk vk).run P w = .ok () { w with heap := w.heap.setIfInBounds b' (.map ys.toArray c') } := by
      cases q with
      | some jv =>
        obtain ⟨j, v0⟩ := jv
        obtain ⟨es', hk', h11⟩ := modEK_some (show modEK v key es j (fun es' => T.put (some (.map es' c)) H b fun H' => k none H' nx) = some r from hq)
        obtain ⟨H', hg, hk'⟩ := T.put_spec _ _ _ _ _ hk'
        refine ⟨es', c, H', hg, hk', fun m xs vv w hx hv b' hw => ?_⟩
        obtain ⟨h12, h13⟩ := h11 m xs key vv hx (hb m) hv
        refine ⟨_, h12, fun kk vk hkk hvk => ?_⟩
        subst hkk; subst hvk
        obtain ⟨_, e, h14, h15, h16⟩ := h9 j v0 rfl
        obtain ⟨kv2, vv2, h17, _, h18⟩ := hx.get (show es[j]? = some e from h14)
        rw [(h16.bare m).2] at h17; cases h17
        obtain ⟨q', h19, x', _, rfl⟩ := h10 m xs hx
        simp only [Instr.mapUpdate, Sem.run_bind, run_undX hu, Result.andThen_ok, run_getMap hw, checkKey_run hck hd hku, run_find (kd := xk.kd) (es := xs.toArray.toList) hku h19]
        have h20 : ((xs.toArray[j]?).map (·.key)).getD key = e.key := by simp [h18]
        simp only [h20, Sem.run_bind, run_stays h16, Result.andThen_ok, run_setMap hw]
        congr 4
        simp
      | none =>
        have hq : nfK (Nat.succ c) (fun c' => T.put (some (.map (es ++ [⟨key, v, c⟩]) c')) H b fun H' => k none H' nx) = some r := hq
        rw [nfK_eq] at hq
        obtain ⟨H', hg, hk'⟩ := T.put_spec _ _ _ _ _ hq
        refine ⟨_, _, H', hg, hk', fun m xs vv w hx hv b' hw => ⟨_, hx.snoc (hb m) hv, fun kk vk hkk hvk => ?_⟩⟩
        subst hkk; subst hvk
        obtain ⟨q', h19, rfl⟩ := h10 m xs hx
        simp only [Instr.mapUpdate, Sem.run_bind, run_undX hu, Result.andThen_ok, run_getMap hw, checkKey_run hck hd hku, run_find (kd := xk.kd) (es := xs.toArray.toList) hku h19, run_setMap hw]
        congr 4
        simp
    obtain ⟨es', c', H', hg, hk', h11⟩ := key2
    have main : ∀ (m : Ren) (n : Nat) (a : Act) (w0 w : World) (F : List Res), EnvR m env n a.tmps → Sat w0 w ((kH, HEAP H m) :: F) → ∃ w', Sat w0 w' ((kH, HEAP H' m) :: F) ∧ (Instr.mapUpdate t (a.eval x) (a.eval y) (a.eval z)).run P w = .ok () w' := fun m n a w0 w F he hs => by
      obtain ⟨uk, h12, h13⟩ := h5 m n a he
      rw [hb m] at h12; cases h12
      obtain ⟨uv, h14, h15⟩ := h6 m n a he
      obtain ⟨um, h16, h17⟩ := h7 m n a he
      obtain ⟨b', s, rr, h18, h19, h20⟩ := heap_get hs h8
      simp only [tr, h18, Option.some.injEq] at h16; subst h16
      obtain ⟨xs, rfl, h21⟩ := h19
      obtain ⟨ys, h22, h23⟩ := h11 m xs uv w h21 h14 b' h20
      refine ⟨_, heap_put hs h8 h18 hg (show ObjR m s (.map es' c') (.map ys.toArray c') from ⟨ys, rfl, h22⟩), ?_⟩
      rw [h17, h13, h15]
      exact h23 _ _ rfl rfl
    refine ⟨_, _, _, ?_, ?_, hk'⟩ <;>
    · intro m n a w0 w F he hm hs
      obtain ⟨w', h12, h13⟩ := main m n a w0 w F he hs
      exact ⟨m, w', Ren.ext_refl m _, hm, h12, _, rfl, fun o ho _ => by unfold execOp; rw [ho]; simp [h13]⟩
  · cases h

noncomputable def wrDelete (X : T XT) (t : TypeId) (x y : Operand) (env : T Value) (H : AHeap) (nx : Nat) (k : Option Value → AHeap → Nat → Option ρ) : Option ρ :=
  getK X t fun xt => mapK xt.kd fun kt _ => getK X kt fun xk => evK y env fun key => keyK xk.kd key (evK x env fun mv => match mv with
    | .map (some b) => getK H b fun obj => mobjK obj fun es c => findK xk.kd key es 0 fun q => match q with
      | some (i, _) => delEK es i fun es' => T.put (some (.map es' c)) H b fun H' => k (some (.tuple ⟨[]⟩)) H' nx
      | none => k (some (.tuple ⟨[]⟩)) H nx
    | _ => none)
theorem set_same {w : World} {b : Nat} {o : Obj} (h : w.heap[b]? = some o) : { w with heap := w.heap.setIfInBounds b o } = w := by
  have : w.heap.setIfInBounds b o = w.heap := by
    obtain ⟨hlt, hg⟩ := Array.getElem?_eq_some_iff.1 h
    apply Array.ext_getElem?
    intro j
    rw [Array.getElem?_setIfInBounds]
    by_cases hj : b = j
    · subst hj; simp [hlt, hg]
    · simp [hj]
  rw [this]
theorem wrDelete_some (hX : TyOK P X) {ts : Array TypeId} (h : wrDelete X t x y env H nx k = some r) (hts : ts[0]? = some t) : ∃ ov H' nx', WrOK P (.call { callee := .builtin .delete, args := #[x, y], argTypes := ts }) ty env H nx ov H' nx' ∧ k ov H' nx' = some r := by
  obtain ⟨xt, h1, h⟩ := getK_some h
  obtain ⟨kt, et, h2, h⟩ := mapK_some h
  obtain ⟨xk, h3, h⟩ := getK_some h
  obtain ⟨key, h5, h⟩ := evK_some h
  obtain ⟨h, ⟨d, hd⟩, hb, hck⟩ := keyK_some (P := P) h
  obtain ⟨mv, h7, h⟩ := evK_some h
  obtain ⟨d', hu, hk⟩ := (hX t xt h1).und
  rw [h2] at hk; simp only [KdOK] at hk; subst hk
  have hku := keyD_und (hX kt xk h3) hd
  split at h
  · rename_i b
    obtain ⟨obj, h8, h⟩ := getK_some h
    obtain ⟨es, c, rfl, h'⟩ := mobjK_some h
    clear h
    obtain ⟨q, hq, _, _, h9, h10⟩ := findK_some hd h'
    cases q with
    | some jv =>
      obtain ⟨j, v0⟩ := jv
      obtain ⟨es', hk', h11⟩ := delEK_some (show delEK es j (fun es' => T.put (some (.map es' c)) H b fun H' => k (some (.tuple ⟨[]⟩)) H' nx) = some r from hq)
      obtain ⟨H', hg, hk'⟩ := T.put_spec _ _ _ _ _ hk'
      refine ⟨_, _, _, fun m n a w0 w F he hm hs => ?_, hk'⟩
      obtain ⟨uk, h12, h13⟩ := h5 m n a he
      rw [hb m] at h12; cases h12
      obtain ⟨um, h16, h17⟩ := h7 m n a he
      obtain ⟨b', s, rr, h18, h19, h20⟩ := heap_get hs h8
      simp only [tr, h18, Option.some.injEq] at h16; subst h16
      obtain ⟨xs, rfl, h21⟩ := h19
      obtain ⟨q', h22, x', _, rfl⟩ := h10 m xs h21
      refine ⟨m, _, Ren.ext_refl m _, hm, heap_put hs h8 h18 hg (show ObjR m s (.map es' c) (.map (xs.eraseIdx j).toArray c) from ⟨_, rfl, h11 m xs h21⟩), _, ⟨.tuple ⟨[]⟩, rfl, rfl⟩, fun o ho _ => ?_⟩
      unfold execOp; rw [ho]
      simp only [resolve, invoke, builtin, Builtin.delete_, List.map_toArray, List.map_cons, List.map_nil, h17, h13, Sem.run_bind, Sem.run_pure, Result.andThen_ok, hts, List.getElem?_toArray, List.getElem?_cons_zero, List.getElem?_cons_succ,
        run_undX hu, run_getMap h20, checkKey_run hck hd hku, run_find (kd := xk.kd) (es := xs.toArray.toList) hku h22, run_setMap h20]
      congr 4
      simp
    | none =>
      refine ⟨_, _, _, fun m n a w0 w F he hm hs => ?_, (show k (some (.tuple ⟨[]⟩)) H nx = some r from hq)⟩
      obtain ⟨uk, h12, h13⟩ := h5 m n a he
      rw [hb m] at h12; cases h12
      obtain ⟨um, h16, h17⟩ := h7 m n a he
      obtain ⟨b', s, rr, h18, h19, h20⟩ := heap_get hs h8
      simp only [tr, h18, Option.some.injEq] at h16; subst h16
      obtain ⟨xs, rfl, h21⟩ := h19
      obtain ⟨q', h22, rfl⟩ := h10 m xs h21
      refine ⟨m, _, Ren.ext_refl m _, hm, hs, _, ⟨.tuple ⟨[]⟩, rfl, rfl⟩, fun o ho _ => ?_⟩
      unfold execOp; rw [ho]
      simp only [resolve, invoke, builtin, Builtin.delete_, List.map_toArray, List.map_cons, List.map_nil, h17, h13, Sem.run_bind, Sem.run_pure, Result.andThen_ok, hts, List.getElem?_toArray, List.getElem?_cons_zero, List.getElem?_cons_succ,
        run_undX hu, run_getMap h20, checkKey_run hck hd hku, run_find (kd := xk.kd) (es := xs.toArray.toList) hku h22, run_setMap h20, set_same h20]
  · cases h
end
end Go.Gsl

namespace Go.Gsl
set_option linter.unusedVariables false
section
variable {ρ : Type} {P : Program} {X : T XT} {ty t : TypeId} {env : T Value} {H : AHeap} {nx : Nat} {r : ρ} {x y z : Operand} {k : Option Value → AHeap → Nat → Option ρ}

theorem run_getObj' {w : World} {b : Nat} {o : Obj} (hb : w.heap[b]? = some o) (hc : ∀ cs ty fr, o ≠ .cells cs ty fr) : (getObj b).run P w = .ok o w := by
  cases o <;> first | exact absurd rfl (hc _ _ _) | simp [getObj, Sem.run, hb]
theorem run_setObj' {w : World} {b : Nat} {o o' : Obj} (hb : w.heap[b]? = some o) (hc : ∀ cs ty fr, o ≠ .cells cs ty fr) : (setObj b o').run P w = .ok () { w with heap := w.heap.setIfInBounds b o' } := by
  cases o <;> first | exact absurd rfl (hc _ _ _) | simp [setObj, Sem.run, hb]

/-! ### range over a map -/
noncomputable def wrRange (X : T XT) (t : TypeId) (x : Operand) (env : T Value) (H : AHeap) (nx : Nat) (k : Option Value → AHeap → Nat → Option ρ) : Option ρ :=
  getK X t fun xt => mapK xt.kd fun _ _ => evK x env fun mv => match mv with
    | .map none => newK (.iter none 0 [] 0) H nx fun H' n => k (some (.pointer (some ⟨nx, 0, none⟩))) H' n
    | .map (some b) => getK H b fun obj => mobjK obj fun _ c => newK (.iter (some b) c [] c) H nx fun H' n => k (some (.pointer (some ⟨nx, 0, none⟩))) H' n
    | _ => none
theorem wrRange_some (hX : TyOK P X) (h : wrRange X t x env H nx k = some r) : ∃ ov H' nx', WrOK P (.range t x) ty env H nx ov H' nx' ∧ k ov H' nx' = some r := by
  obtain ⟨xt, h1, h⟩ := getK_some h
  obtain ⟨kt, et, h2, h⟩ := mapK_some h
  obtain ⟨mv, h3, h⟩ := evK_some h
  obtain ⟨d', hu, hk⟩ := (hX t xt h1).und
  rw [h2] at hk; simp only [KdOK] at hk; subst hk
  split at h
  · obtain ⟨H', hg, h⟩ := newK_some h
    refine ⟨_, _, _, wr_new hg fun m n a w0 w F he hs => ⟨0, .mapIter none 0 #[] 0, rfl, fun m' hm' => ⟨.pointer (some ⟨w.heap.size, 0, none⟩), by simp only [tr, trA, hm'], fun o ho _ => ?_⟩⟩, h⟩
    obtain ⟨u, h4, h5⟩ := h3 m n a he
    simp only [tr, Option.some.injEq] at h4; subst h4
    unfold execOp; rw [ho]
    simp [Instr.range, run_undX hu, h5] <;> rfl
  · rename_i b
    obtain ⟨obj, h8, h⟩ := getK_some h
    obtain ⟨es, c, rfl, h'⟩ := mobjK_some h
    obtain ⟨H', hg, h'⟩ := newK_some h'
    refine ⟨_, _, _, wr_new hg fun m n a w0 w F he hs => ?_, h'⟩
    obtain ⟨u, h4, h5⟩ := h3 m n a he
    obtain ⟨b', s, rr, h18, h19, h20⟩ := heap_get hs h8
    simp only [tr, h18, Option.some.injEq] at h4; subst h4
    obtain ⟨xs, rfl, h21⟩ := h19
    refine ⟨0, .mapIter (some b') c #[] c, ⟨(b', s), h18, rfl⟩, fun m' hm' => ⟨.pointer (some ⟨w.heap.size, 0, none⟩), by simp only [tr, trA, hm'], fun o ho _ => ?_⟩⟩
    unfold execOp; rw [ho]
    simp [Instr.range, run_undX hu, h5, run_getMap h20] <;> rfl
  · cases h

noncomputable def memN (n : Nat) (l : List Nat) : Bool := List.rec (motive := fun _ => Bool) false (fun m _ ih => Bool.rec (motive := fun _ => Bool) ih true (Nat.beq m n)) l
theorem memN_eq (n : Nat) : ∀ l : List Nat, memN n l = l.contains n
  | [] => rfl
  | m :: l => by
    show Bool.rec (motive := fun _ => Bool) (memN n l) true (Nat.beq m n) = _
    rw [memN_eq n l, nat_beq_decide, List.contains_cons]
    by_cases h : m = n
    · subst h; simp
    · have : ¬ n = m := fun e => h e.symm
      simp [h, this]
/-- the entries that have not come yet -/
noncomputable def leftK (seen : List Nat) (es : List MapEntry) : (List MapEntry → Option ρ) → Option ρ :=
  List.rec (motive := fun _ => (List MapEntry → Option ρ) → Option ρ) (fun k => k []) (fun e _ ih k => Bool.rec (motive := fun _ => Option ρ) (ih fun l => k (e :: l)) (ih k) (memN e.born seen)) es
theorem leftK_eq (seen : List Nat) : ∀ (es : List MapEntry) (k : List MapEntry → Option ρ), leftK seen es k = k (es.filter fun e => !seen.contains e.born)
  | [], k => rfl
  | e :: es, k => by
    show Bool.rec (motive := fun _ => Option ρ) (leftK seen es fun l => k (e :: l)) (leftK seen es k) (memN e.born seen) = _
    rw [memN_eq, leftK_eq seen es, leftK_eq seen es, List.filter_cons]
    cases seen.contains e.born <;> simp
theorem EntR.filter {m : Ren} (p : Nat → Bool) : ∀ {es xs : List MapEntry}, EntR m es xs → EntR m (es.filter fun e => p e.born) (xs.filter fun e => p e.born)
  | [], xs, h => by simp only [EntR] at h; subst h; rfl
  | e :: es, xs, h => by
    obtain ⟨k1, v1, l', h3, h4, rfl, h5⟩ := h
    have h6 := h5.filter p
    cases hp : p e.born with
    | true => simp only [List.filter_cons, hp, if_true]; exact ⟨k1, v1, _, h3, h4, rfl, h6⟩
    | false => simp only [List.filter_cons, hp, Bool.false_eq_true, if_false]; exact h6
/-- are all of them new? -/
noncomputable def allGe (last : Nat) (es : List MapEntry) : Bool := List.rec (motive := fun _ => Bool) true (fun e _ ih => Bool.rec (motive := fun _ => Bool) false ih (Nat.ble last e.born)) es
theorem allGe_eq (last : Nat) : ∀ es : List MapEntry, allGe last es = es.all fun e => decide (e.born ≥ last)
  | [] => rfl
  | e :: es => by
    show Bool.rec (motive := fun _ => Bool) false (allGe last es) (Nat.ble last e.born) = _
    rw [allGe_eq last es, nat_ble_decide, List.all_cons]
    by_cases h : last ≤ e.born <;> simp [h]
theorem EntR.all {m : Ren} (p : Nat → Bool) : ∀ {es xs : List MapEntry}, EntR m es xs → (xs.all fun e => p e.born) = es.all fun e => p e.born
  | [], xs, h => by simp only [EntR] at h; subst h; rfl
  | e :: es, xs, h => by
    obtain ⟨k1, v1, l', h3, h4, rfl, h5⟩ := h
    simp only [List.all_cons, h5.all p]
def iterK (o : AObj) (k : Option Nat → Nat → List Nat → Nat → Option ρ) : Option ρ := match o with
  | .iter b since seen last => k b since seen last
  | _ => none
theorem iterK_some {o : AObj} {k : Option Nat → Nat → List Nat → Nat → Option ρ} (h : iterK o k = some r) : ∃ b since seen last, o = .iter b since seen last ∧ k b since seen last = some r := by
  unfold iterK at h; split at h
  · exact ⟨_, _, _, _, rfl, h⟩
  · cases h
noncomputable def wrNext (x : Operand) (isStr : Bool) (env : T Value) (H : AHeap) (nx : Nat) (k : Option Value → AHeap → Nat → Option ρ) : Option ρ :=
  ckK (!isStr) (evK x env fun v => ptrK v fun i o => ckK (Nat.beq o 0) (getK H i fun obj => iterK obj fun b since seen last => match b with
    | none => k (some (.tuple ⟨[.bool false]⟩)) H nx
    | some b => getK H b fun mo => mobjK mo fun es c => ckK (seen.isEmpty || es.isEmpty || !(allGe last es)) (leftK seen es fun l => match l with
      | [] => k (some (.tuple ⟨[.bool false]⟩)) H nx
      | [e] => ckK (Nat.ble (Nat.succ e.born) since) (T.put (some (.iter (some b) since (seen ++ [e.born]) c)) H i fun H' => k (some (.tuple ⟨[.bool true, e.key, e.val]⟩)) H' nx)
      | _ => none)))
theorem wrNext_some {isStr : Bool} (h : wrNext x isStr env H nx k = some r) : ∃ ov H' nx', WrOK P (.next x isStr) ty env H nx ov H' nx' ∧ k ov H' nx' = some r := by
  obtain ⟨h1, h⟩ := ckK_some h
  have hst : isStr = false := by simpa using h1
  subst hst
  obtain ⟨v, h2, h⟩ := evK_some h
  obtain ⟨i, o, rfl, h⟩ := ptrK_some h
  obtain ⟨h3, h⟩ := ckK_some h
  have h3 := Nat.eq_of_beq_eq_true h3
  subst h3
  obtain ⟨obj, h4, h⟩ := getK_some h
  obtain ⟨b, since, seen, last, rfl, h'⟩ := iterK_some h
  clear h
  split at h'
  · refine ⟨_, _, _, fun m n a w0 w F he hm hs => ?_, h'⟩
    obtain ⟨u, h5, h6⟩ := h2 m n a he
    obtain ⟨b', s, rr, h7, h8, h9⟩ := heap_get hs h4
    simp only [tr, trA, h7, Option.some.injEq] at h5; subst h5
    have h8 : rr = .mapIter none since seen.toArray last := h8
    subst h8
    refine ⟨m, w, Ren.ext_refl m _, hm, hs, _, ⟨.tuple ⟨[.bool false]⟩, rfl, rfl⟩, fun o ho _ => ?_⟩
    unfold execOp; rw [ho]
    simp [Instr.next, h6, run_getObj' h9 (fun _ _ _ h => by cases h)]
  · rename_i b
    obtain ⟨mo, h5, h⟩ := getK_some h'
    obtain ⟨es, c, rfl, h''⟩ := mobjK_some h
    clear h h'
    obtain ⟨h6, h''⟩ := ckK_some h''
    rw [leftK_eq] at h''
    -- the two objects, in the model
    have both : ∀ (m : Ren) (n : Nat) (a : Act) (w0 w : World) (F : List Res), EnvR m env n a.tmps → Sat w0 w ((kH, HEAP H m) :: F) → ∃ i' b' s xs, m i = some (i', s) ∧ a.eval x = .pointer (some ⟨i', 0, none⟩) ∧ w.heap[i']? = some (.mapIter (some b') since seen.toArray last) ∧
        w.heap[b']? = some (.map xs c) ∧ EntR m es xs.toList ∧ (∃ s', m b = some (b', s')) ∧ (!seen.toArray.isEmpty && !xs.isEmpty && xs.all (·.born ≥ last)) = false := fun m n a w0 w F he hs => by
      obtain ⟨u, h7, h8⟩ := h2 m n a he
      obtain ⟨i', s, rr, h9, h10, h11⟩ := heap_get hs h4
      simp only [tr, trA, h9, Option.some.injEq] at h7; subst h7
      obtain ⟨xb, h12, rfl⟩ := h10
      obtain ⟨b', s', rr', h13, h14, h15⟩ := heap_get hs h5
      rw [h12] at h13; cases h13
      obtain ⟨xs, rfl, h16⟩ := h14
      refine ⟨i', b', s, xs.toArray, h9, h8, h11, h15, by simpa using h16, ⟨s', h12⟩, ?_⟩
      have e1 : xs.toArray.all (fun e => decide (e.born ≥ last)) = allGe last es := by
        rw [allGe_eq, ← h16.all fun n => decide (n ≥ last)]; simp
      have e2 : xs.isEmpty = es.isEmpty := by
        have := h16.len
        cases xs <;> cases es <;> simp at this ⊢
      rw [e1]
      simp only [List.isEmpty_toArray, e2]
      revert h6
      generalize seen.isEmpty = b1, es.isEmpty = b2, allGe last es = b3
      cases b1 <;> cases b2 <;> cases b3 <;> simp
    split at h''
    · rename_i hl
      refine ⟨_, _, _, fun m n a w0 w F he hm hs => ?_, h''⟩
      obtain ⟨i', b', s, xs, h7, h8, h9, h10, h11, h12, h13⟩ := both m n a w0 w F he hs
      refine ⟨m, w, Ren.ext_refl m _, hm, hs, _, ⟨.tuple ⟨[.bool false]⟩, rfl, rfl⟩, fun o ho _ => ?_⟩
      have hf := h11.filter fun n => !seen.contains n
      rw [hl] at hf
      simp only [EntR] at hf
      have hx : xs.filter (fun e => !seen.toArray.contains e.born) = #[] := by
        apply Array.toList_inj.1; rw [Array.toList_filter]; simpa using hf
      unfold execOp; rw [ho]
      simp only [Instr.next, h8, Sem.run_bind, run_getObj' h9 (fun _ _ _ h => by cases h), Result.andThen_ok, run_getMap h10, h13, Bool.false_eq_true, if_false, hx]
      simp [Question.forced]
    · rename_i e hl
      obtain ⟨h7, h''⟩ := ckK_some h''
      obtain ⟨H', hg, h''⟩ := T.put_spec _ _ _ _ _ h''
      have h7 : e.born + 1 ≤ since := Nat.le_of_ble_eq_true h7
      refine ⟨_, _, _, fun m n a w0 w F he hm hs => ?_, h''⟩
      obtain ⟨i', b', s, xs, h8, h9, h10, h11, h12, ⟨s', h13⟩, h14⟩ := both m n a w0 w F he hs
      have hf := h12.filter fun n => !seen.contains n
      rw [hl] at hf
      obtain ⟨kv, vv, l', h15, h16, h17, h18⟩ := hf
      simp only [EntR] at h18; subst h18
      have hx : xs.filter (fun e => !seen.toArray.contains e.born) = #[⟨kv, vv, e.born⟩] := by
        apply Array.toList_inj.1; rw [Array.toList_filter]; simpa using h17
      refine ⟨m, _, Ren.ext_refl m _, hm, heap_put hs h4 h8 hg (show ObjR m s (.iter (some b) since (seen ++ [e.born]) c) (.mapIter (some b') since (seen.toArray.push e.born) c) from ⟨(b', s'), h13, by simp⟩), _, ⟨.tuple ⟨[.bool true, kv, vv]⟩, by simp only [tr, trL, h15, h16], rfl⟩, fun o ho _ => ?_⟩
      unfold execOp; rw [ho]
      have e1 : (#[(⟨kv, vv, e.born⟩ : MapEntry)].filter fun e => decide (e.born < since)) = #[⟨kv, vv, e.born⟩] := by simp [show e.born < since by omega]
      have e2 : (#[(⟨kv, vv, e.born⟩ : MapEntry)].filter fun e => decide (e.born ≥ since)) = #[] := by simp; omega
      simp only [Instr.next, h9, Sem.run_bind, run_getObj' h10 (fun _ _ _ h => by cases h), Result.andThen_ok, run_getMap h11, h14, Bool.false_eq_true, if_false, hx, e1, e2]
      simp [Question.forced, run_setObj' h10 (fun _ _ _ h => by cases h)]
    · cases h''
noncomputable def findB (n : Nat) (es : List MapEntry) : (MapEntry → Option ρ) → Option ρ :=
  List.rec (motive := fun _ => (MapEntry → Option ρ) → Option ρ) (fun _ => none) (fun e _ ih k => Bool.rec (motive := fun _ => Option ρ) (ih k) (k e) (Nat.beq e.born n)) es
theorem findB_some {n : Nat} : ∀ {es : List MapEntry} {k : MapEntry → Option ρ}, findB n es k = some r → ∃ e, k e = some r ∧ ∀ m xs, EntR m es xs → ∃ kv vv, tr m e.key = some kv ∧ tr m e.val = some vv ∧ xs.find? (fun e => e.born == n) = some ⟨kv, vv, n⟩
  | [], k, h => by cases h
  | e :: es, k, h => by
    have h : Bool.rec (motive := fun _ => Option ρ) (findB n es k) (k e) (Nat.beq e.born n) = some r := h
    cases hb : Nat.beq e.born n with
    | true =>
      rw [hb] at h
      have hb := Nat.eq_of_beq_eq_true hb
      refine ⟨e, h, fun m xs hx => ?_⟩
      obtain ⟨k1, v1, l', h3, h4, rfl, h5⟩ := hx
      exact ⟨k1, v1, h3, h4, by rw [hb]; simp⟩
    | false =>
      rw [hb] at h
      have hb := Nat.ne_of_beq_eq_false hb
      obtain ⟨e', h1, h2⟩ := findB_some (show findB n es k = some r from h)
      refine ⟨e', h1, fun m xs hx => ?_⟩
      obtain ⟨k1, v1, l', h3, h4, rfl, h5⟩ := hx
      obtain ⟨kv, vv, h6, h7, h8⟩ := h2 m l' h5
      exact ⟨kv, vv, h6, h7, by rw [List.find?_cons_of_neg]; exact h8; simpa using hb⟩
noncomputable def wrEntry (x : Operand) (env : T Value) (H : AHeap) (nx : Nat) (k : Option Value → AHeap → Nat → Option ρ) : Option ρ :=
  evK x env fun v => ptrK v fun i o => ckK (Nat.beq o 0) (getK H i fun obj => iterK obj fun b since seen last => match b with
    | none => none
    | some b => getK H b fun mo => mobjK mo fun es c => ckK (Nat.beq c last) (match seen.getLast? with
      | some n => findB n es fun e => k (some (.tuple ⟨[e.key, e.val]⟩)) H nx
      | none => none))
theorem wrEntry_some (h : wrEntry x env H nx k = some r) : ∃ ov H' nx', WrOK P (.entry x) ty env H nx ov H' nx' ∧ k ov H' nx' = some r := by
  obtain ⟨v, h2, h⟩ := evK_some h
  obtain ⟨i, o, rfl, h⟩ := ptrK_some h
  obtain ⟨h3, h⟩ := ckK_some h
  have h3 := Nat.eq_of_beq_eq_true h3
  subst h3
  obtain ⟨obj, h4, h⟩ := getK_some h
  obtain ⟨b, since, seen, last, rfl, h'⟩ := iterK_some h
  clear h
  split at h'
  · cases h'
  · rename_i b
    obtain ⟨mo, h5, h⟩ := getK_some h'
    obtain ⟨es, c, rfl, h''⟩ := mobjK_some h
    clear h h'
    obtain ⟨h6, hf⟩ := ckK_some h''
    clear h''
    have h6 := Nat.eq_of_beq_eq_true h6
    subst h6
    have h'' := hf
    clear hf
    split at h''
    · rename_i n hn
      obtain ⟨e, h'', h7⟩ := findB_some h''
      refine ⟨_, _, _, fun m nn a w0 w F he hm hs => ?_, h''⟩
      obtain ⟨u, h8, h9⟩ := h2 m nn a he
      obtain ⟨i', s, rr, h10, h11, h12⟩ := heap_get hs h4
      simp only [tr, trA, h10, Option.some.injEq] at h8; subst h8
      obtain ⟨xb, h13, rfl⟩ := h11
      obtain ⟨b', s', rr', h14, h15, h16⟩ := heap_get hs h5
      rw [h13] at h14; cases h14
      obtain ⟨xs, rfl, h17⟩ := h15
      obtain ⟨kv, vv, h18, h19, h20⟩ := h7 m xs h17
      refine ⟨m, w, Ren.ext_refl m _, hm, hs, _, ⟨.tuple ⟨[kv, vv]⟩, by simp only [tr, trL, h18, h19], rfl⟩, fun o ho _ => ?_⟩
      unfold execOp; rw [ho]
      have e1 : seen.toArray.back? = some n := by simpa using hn
      simp [Instr.entry, h9, run_getObj' h12 (fun _ _ _ h => by cases h), e1, run_getMap h16, h20]
    · cases h''

noncomputable def wrClear (X : T XT) (t : TypeId) (x : Operand) (env : T Value) (H : AHeap) (nx : Nat) (k : Option Value → AHeap → Nat → Option ρ) : Option ρ :=
  getK X t fun xt => evK x env fun v => match xt.kd with
    | .map _ _ => match v with
      | .map (some b) => getK H b fun obj => mobjK obj fun _ c => T.put (some (.map [] c)) H b fun H' => k (some (.tuple ⟨[]⟩)) H' nx
      | _ => none
    | .sl _ => match v with
      | .slice _ 0 _ => k (some (.tuple ⟨[]⟩)) H nx
      | _ => none
    | _ => none
theorem wrClear_some (hX : TyOK P X) {ts : Array TypeId} (h : wrClear X t x env H nx k = some r) (hts : ts[0]? = some t) : ∃ ov H' nx', WrOK P (.call { callee := .builtin .clear, args := #[x], argTypes := ts }) ty env H nx ov H' nx' ∧ k ov H' nx' = some r := by
  obtain ⟨xt, h1, h⟩ := getK_some h
  obtain ⟨v, h2, h⟩ := evK_some h
  obtain ⟨d', hu, hk⟩ := (hX t xt h1).und
  split at h
  · rename_i hkd
    rw [hkd] at hk; simp only [KdOK] at hk; subst hk
    split at h
    · rename_i b
      obtain ⟨obj, h3, h⟩ := getK_some h
      obtain ⟨es, c, rfl, h'⟩ := mobjK_some h
      obtain ⟨H', hg, h'⟩ := T.put_spec _ _ _ _ _ h'
      refine ⟨_, _, _, fun m n a w0 w F he hm hs => ?_, h'⟩
      obtain ⟨u, h5, h6⟩ := h2 m n a he
      obtain ⟨b', s, rr, h7, h8, h9⟩ := heap_get hs h3
      simp only [tr, h7, Option.some.injEq] at h5; subst h5
      obtain ⟨xs, rfl, h10⟩ := h8
      refine ⟨m, _, Ren.ext_refl m _, hm, heap_put hs h3 h7 hg (show ObjR m s (.map [] c) (.map #[] c) from ⟨[], rfl, rfl⟩), _, ⟨.tuple ⟨[]⟩, rfl, rfl⟩, fun o ho _ => ?_⟩
      unfold execOp; rw [ho]
      simp [resolve, invoke, builtin, Builtin.clear_, h6, hts, run_undX hu, run_getMap h9, run_setMap h9]
    · cases h
  · rename_i hkd
    rw [hkd] at hk; simp only [KdOK] at hk; subst hk
    split at h
    · rename_i a' c
      refine ⟨_, _, _, fun m n a w0 w F he hm hs => ?_, h⟩
      obtain ⟨u, h5, h6⟩ := h2 m n a he
      have hu' : ∃ b c, u = .slice b 0 c := by
        cases a' with
        | none => simp only [tr, Option.some.injEq] at h5; exact ⟨_, _, h5.symm⟩
        | some q =>
          simp only [tr] at h5
          split at h5
          · exact ⟨_, _, (Option.some.inj h5).symm⟩
          · cases h5
      obtain ⟨b, c', rfl⟩ := hu'
      refine ⟨m, w, Ren.ext_refl m _, hm, hs, _, ⟨.tuple ⟨[]⟩, rfl, rfl⟩, fun o ho _ => ?_⟩
      unfold execOp; rw [ho]
      cases b <;> simp [resolve, invoke, builtin, Builtin.clear_, h6, hts, run_undX hu]
    · cases h
  · cases h

/-! ### append(nil, make([]T, n)...) -/
def intKd (x : XK) (k : Option ρ) : Option ρ := match x with
  | .int _ => k
  | _ => none
theorem intKd_some {x : XK} {k : Option ρ} (h : intKd x k = some r) : (∃ kk, x = .int kk) ∧ k = some r := by
  unfold intKd at h; split at h
  · exact ⟨⟨_, rfl⟩, h⟩
  · cases h
noncomputable def wrAppendZ (X : T XT) (t tx : TypeId) (x y : Operand) (env : T Value) (H : AHeap) (nx : Nat) (k : Option Value → AHeap → Nat → Option ρ) : Option ρ :=
  getK X t fun xt => slK xt.kd fun e => getK X e fun xe => getK X tx fun xx => intKd xx.kd (evK x env fun v => match v with
    | .slice none 0 0 => evNK y env fun n => ckK (Nat.ble 1 n) (ckK (Nat.ble 1 xe.sz) (ckK (Nat.ble n 9223372036854775807) (ckK (Nat.ble (Nat.mul n xe.byt) 281474976710656)
        (newK (.cells n xe.sz .lf xe.z e true) H nx fun H' n' => k (some (.slice (some ⟨nx, 0, none⟩) n n)) H' n'))))
    | _ => none)
theorem wrAppendZ_some (hX : TyOK P X) {tx : TypeId} (h : wrAppendZ X t tx x y env H nx k = some r) :
    ∃ ov H' nx', WrOK P (.call { callee := .builtin .append, args := #[x, y], argTypes := #[t, tx] }) ty env H nx ov H' nx' ∧ k ov H' nx' = some r := by
  obtain ⟨xt, h1, h⟩ := getK_some h
  obtain ⟨e, h2, h⟩ := slK_some h
  obtain ⟨xe, h3, h⟩ := getK_some h
  obtain ⟨xx, h4, h⟩ := getK_some h
  obtain ⟨⟨kk, hkk⟩, h⟩ := intKd_some h
  obtain ⟨v, h5, h⟩ := evK_some h
  obtain ⟨d, hu, hk⟩ := (hX t xt h1).und
  rw [h2] at hk; simp only [KdOK] at hk; subst hk
  obtain ⟨d2, hu2, hk2⟩ := (hX tx xx h4).und
  rw [hkk] at hk2; simp only [KdOK] at hk2; subst hk2
  have hE := hX e xe h3
  obtain ⟨i, hi, hib, his, hiz⟩ := hE.info
  split at h
  · obtain ⟨n, hn, h⟩ := evNK_some h
    obtain ⟨c1, h⟩ := ckK_some h
    obtain ⟨c2, h⟩ := ckK_some h
    obtain ⟨c3, h⟩ := ckK_some h
    obtain ⟨c4, h⟩ := ckK_some h
    obtain ⟨H', hg, h⟩ := newK_some h
    have c1 : 1 ≤ n := Nat.le_of_ble_eq_true c1
    have c2 : 1 ≤ xe.sz := Nat.le_of_ble_eq_true c2
    have c3 := Nat.le_of_ble_eq_true c3
    have c4 : n * xe.byt ≤ 281474976710656 := Nat.le_of_ble_eq_true c4
    refine ⟨_, _, _, fun m n' a w0 w F he hm hs => ?_, h⟩
    obtain ⟨kn, hn⟩ := hn.eval he
    have hx := h5.slice_none he
    have hfree := hm nx (Nat.le_refl _)
    have hr := Lib.run_append_nil_zeros (P := P) w t tx ty e i xe.zero kn kk hu hu2 hi hiz n (by omega) (by rw [his]; omega) (by omega) (by rw [hib]; exact c4)
    have hge := grownCap_ge w n 0 e
    have hz : xe.zero.cells = ⟨xe.z⟩ := hE.bz.2
    have hzl := hE.len
    have hA : Builtin.zeroCells xe.zero.cells n ++ Builtin.zeroCells xe.zero.cells (grownCap w n 0 e - n) = ((Builtin.zeroCells xe.zero.cells n).toList ++ (Builtin.zeroCells xe.zero.cells (grownCap w n 0 e - n)).toList).toArray := by simp
    have hobj : ObjR m (grownCap w n 0 e - n) (.cells n xe.sz .lf xe.z e true) (.cells (Builtin.zeroCells xe.zero.cells n ++ Builtin.zeroCells xe.zero.cells (grownCap w n 0 e - n)) e (0, 0)) := by
      rw [hA]
      refine ObjR.of_cr ?_ (fun h => by cases h) (CR_more ?_)
      · rw [List.length_append, Array.length_toList, Array.length_toList, hz, zc_len, zc_len, hzl, Nat.add_mul]
      · have := cr_zeros (m := m) (n := n) hE.bz.1
        rw [hzl] at this
        rw [hz]
        unfold Builtin.zeroCells
        have e1 : (⟨xe.z⟩ : Array Value).size = xe.sz := hzl
        rw [e1] at this ⊢
        exact this
    have hs3 := heap_new (k := nx) (sat_drew hs) hfree (heap_free hs hfree) hg hobj
    refine ⟨_, _, Ren.ext_upd, hm.upd, hs3, _, ⟨.slice (some ⟨w.heap.size, 0, none⟩) n (grownCap w n 0 e), ?_, rfl⟩, fun o ho hty => ?_⟩
    · have : (m.upd nx (w.drew.heap.size, grownCap w n 0 e - n)) nx = some (w.heap.size, grownCap w n 0 e - n) := by rw [Ren.upd_ap, if_pos rfl]; rfl
      simp only [tr, this, Option.isSome_none, Bool.false_eq_true, if_false]
      rw [Nat.add_sub_cancel' hge]
    · exact run_call_app ho hx hn hty hr
  · cases h

end
end Go.Gsl

namespace Go.Gsl
set_option linter.unusedVariables false
section
variable {ρ : Type} {P : Program} {X : T XT} {ty t : TypeId} {env : T Value} {H : AHeap} {nx : Nat} {r : ρ} {x y z : Operand} {k : Option Value → AHeap → Nat → Option ρ}
noncomputable def minN (a b : Nat) : Nat := Bool.rec (motive := fun _ => Nat) b a (Nat.ble a b)
theorem minN_eq (a b : Nat) : minN a b = Nat.min a b := by
  unfold minN
  rw [nat_ble_decide]
  show _ = if a ≤ b then a else b
  by_cases h : a ≤ b <;> simp [h]
/-- the first 'dl' rows of what is copied: how many it has, how many are copied -/
noncomputable def srcNK (sz dl : Nat) (y : Operand) (env : T Value) (H : AHeap) (k : Nat → SrcI → Option ρ) : Option ρ :=
  evK y env fun v => match v with
    | .slice none 0 _ => k 0 (.rows [])
    | .slice (some ⟨b, o, _⟩) ns _ => nfK (minN ns dl) fun n => getK H b fun obj => cellsK obj fun nb rs tt z _ _ => ckK (Nat.beq rs sz) (nfK (Nat.div o sz) fun q => ckK (Nat.beq (Nat.mul q sz) o) (ckK (Nat.ble (Nat.add q n) nb) (k n (.blk tt z q))))
    | _ => none
theorem srcNK_some {sz dl : Nat} {k : Nat → SrcI → Option ρ} (h : srcNK sz dl y env H k = some r) : ∃ n si, k n si = some r ∧ ∀ (m : Ren) (nn : Nat) (a : Act) (w0 w : World) (F : List Res), EnvR m env nn a.tmps → Sat w0 w ((kH, HEAP H m) :: F) →
    ∃ ns news, (Builtin.lenOf (a.eval y)).run P w = .ok ns w ∧ n = Nat.min ns dl ∧ (Builtin.firstCells sz n (a.eval y)).run P w = .ok news.toArray w ∧ news.length = n * sz ∧ SrcR m sz n news si := by
  obtain ⟨v, h2, h⟩ := evK_some h
  split at h
  · rename_i c
    refine ⟨_, _, h, fun m nn a w0 w F he hs => ?_⟩
    obtain ⟨u, h3, h4⟩ := h2 m nn a he
    simp only [tr, Option.some.injEq] at h3; subst h3
    rw [h4]
    exact ⟨0, [], rfl, by show 0 = Nat.min 0 dl; simp, run_firstCells_none w sz 0 0 _, by simp, rfl, by simp, fun q row j v hq => by simp at hq⟩
  · rename_i b o sp ns c
    rw [nfK_eq, minN_eq] at h
    obtain ⟨obj, h3, h⟩ := getK_some h
    obtain ⟨nb, rs, tt, z, ty', opn, rfl, hh⟩ := cellsK_some h
    obtain ⟨h4, hh⟩ := ckK_some hh
    rw [nfK_eq] at hh
    obtain ⟨h5, hh⟩ := ckK_some hh
    obtain ⟨h6, hh⟩ := ckK_some hh
    have h4 := Nat.eq_of_beq_eq_true h4
    have h5 : o / sz * sz = o := Nat.eq_of_beq_eq_true h5
    have h6 : o / sz + Nat.min ns dl ≤ nb := Nat.le_of_ble_eq_true h6
    subst h4
    refine ⟨_, _, hh, fun m nn a w0 w F he hs => ?_⟩
    obtain ⟨u, h7, h8⟩ := h2 m nn a he
    obtain ⟨b', s, rr, h9, h10, h11⟩ := heap_get hs h3
    simp only [tr, h9, Option.some.injEq] at h7; subst h7
    obtain ⟨cs, rfl, h12, h13, h14⟩ := h10.cr
    have hcl : nb * rs ≤ cs.length := by rw [h12, Nat.add_mul]; omega
    have hnl : ((cs.drop (o / rs * rs)).take (Nat.min ns dl * rs)).length = Nat.min ns dl * rs := by
      have : (o / rs + Nat.min ns dl) * rs ≤ nb * rs := Nat.mul_le_mul_right _ h6
      rw [Nat.add_mul] at this
      rw [List.length_take, List.length_drop]; omega
    have hcell : ∀ j v, ((cs.drop (o / rs * rs)).take (Nat.min ns dl * rs))[j]? = some v → w.cell? (Addr.add ⟨b', o, none⟩ j) = some v := fun j v hv => by
      rw [h5] at hv; exact cells_drop h11 j v hv
    rw [h8]
    exact ⟨ns, _, rfl, rfl, run_firstCells_some w rs _ _ ns _ _ hnl hcell, hnl, cs, nb, h14, h6, hcl, rfl⟩
  · cases h

/-- the tree that a copy leaves: n rows at q -/
noncomputable def cpFast (si : SrcI) (b : Bool) : Option (List Value) := match si with
  | .blk .lf z' _ => Bool.rec (motive := fun _ => Option (List Value)) none (some z') b
  | _ => none
noncomputable def cpK (rs n q nb : Nat) (tt : T (List Value)) (z : List Value) (si : SrcI) (k : T (List Value) → List Value → Option ρ) : Option ρ :=
  Option.rec (motive := fun _ => Option ρ) (siRowsK si n fun rows => ckK (fullB rs rows) (putRowsK rows tt q fun t2 => k t2 z))
    (fun z' => ckK (Nat.beq z'.length rs) (ckK (oneL z') (k .lf z'))) (cpFast si (Nat.beq q 0 && Nat.beq n nb))
theorem cpFast_some {si : SrcI} {b : Bool} {z' : List Value} (h : cpFast si b = some z') : b = true ∧ ∃ q', si = .blk .lf z' q' := by
  unfold cpFast at h
  split at h
  · cases b with
    | false => cases h
    | true => cases h; exact ⟨rfl, _, rfl⟩
  · cases h
theorem cpK_some {rs n q nb : Nat} {tt : T (List Value)} {z : List Value} {si : SrcI} {k : T (List Value) → List Value → Option ρ} (h : cpK rs n q nb tt z si k = some r) (hn : q + n ≤ nb) :
    ∃ t2 z2, k t2 z2 = some r ∧ ∀ m s (cs news : List Value), CR m nb rs tt z cs → cs.length = (nb + s) * rs → news.length = n * rs → SrcR m rs n news si →
      (∀ u ∈ news, u.oneCell' = true) ∧ CR m nb rs t2 z2 (cs.take (q * rs) ++ news ++ cs.drop (q * rs + news.length)) := by
  unfold cpK at h
  cases hf : cpFast si (Nat.beq q 0 && Nat.beq n nb) with
  | none =>
    rw [hf] at h
    obtain ⟨rows, h, h1⟩ := siRowsK_some (show (siRowsK si n fun rows => ckK (fullB rs rows) (putRowsK rows tt q fun t2 => k t2 z)) = some r from h)
    obtain ⟨h2, h⟩ := ckK_some h
    obtain ⟨t2, hg, h⟩ := putRowsK_some h
    refine ⟨t2, z, h, fun m s cs news hc hl hnl hS => ?_⟩
    obtain ⟨h3, h4⟩ := h1 m rs news hS
    have hbnd : q * rs + news.length ≤ cs.length := by
      have : (q + n) * rs ≤ nb * rs := Nat.mul_le_mul_right _ hn
      rw [Nat.add_mul] at this
      rw [hnl, hl, Nat.add_mul nb]; omega
    exact ⟨full_one h2 h4, CR_put hc h4 hg hbnd⟩
  | some z' =>
    rw [hf] at h
    obtain ⟨hb, q', rfl⟩ := cpFast_some hf
    obtain ⟨h2, hA⟩ := ckK_some (show ckK (Nat.beq z'.length rs) (ckK (oneL z') (k .lf z')) = some r from h)
    obtain ⟨h3, hB⟩ := ckK_some hA
    clear h
    have h2 := Nat.eq_of_beq_eq_true h2
    simp only [Bool.and_eq_true] at hb
    have hq0 : q = 0 := Nat.eq_of_beq_eq_true hb.1
    have hnn : n = nb := Nat.eq_of_beq_eq_true hb.2
    subst hq0; subst hnn
    refine ⟨.lf, z', hB, fun m s cs news hc hl hnl hS => ?_⟩
    obtain ⟨cs2, nb2, h11, h12, h13, h14⟩ := hS
    have hz : ∀ (i : Nat) (u : Value), news[i]? = some u → ∃ v, z'[i % rs]? = some v ∧ tr m v = some u := fun i u hu => by
      have hin : i < n * rs := by rw [← hnl]; exact (List.getElem?_eq_some_iff.1 hu).1
      have hsz : 0 < rs := by rcases Nat.eq_zero_or_pos rs with h | h; · rw [h] at hin; omega
                              · exact h
      have hm : i % rs < z'.length := by rw [h2]; exact Nat.mod_lt _ hsz
      have hqn : (q' + n) * rs ≤ nb2 * rs := Nat.mul_le_mul_right _ h12
      rw [Nat.add_mul] at hqn
      obtain ⟨x, h15, h16⟩ := h11 (q' * rs + i) z'[i % rs] (by
        unfold cellAt
        rw [if_pos (by omega)]
        have e1 : rowAt (T.lf : T (List Value)) z' ((q' * rs + i) / rs) = z' := rfl
        rw [e1, Nat.add_comm, Nat.mul_comm, Nat.add_mul_mod_self_left]
        exact List.getElem?_eq_getElem hm)
      refine ⟨_, List.getElem?_eq_getElem hm, ?_⟩
      rw [h14, List.getElem?_take_of_lt hin, List.getElem?_drop, h16] at hu
      cases hu; exact h15
    refine ⟨fun u hu => ?_, fun i v hv => ?_⟩
    · obtain ⟨i, hi, rfl⟩ := List.mem_iff_getElem.1 hu
      obtain ⟨v, h15, h16⟩ := hz i _ (List.getElem?_eq_getElem hi)
      exact tr_one h16 (oneL_spec h3 v (List.mem_of_getElem? h15))
    · unfold cellAt at hv
      split at hv
      · rename_i hi
        have hv : z'[i % rs]? = some v := hv
        have hin : i < news.length := by rw [hnl]; exact hi
        obtain ⟨v', h15, h16⟩ := hz i _ (List.getElem?_eq_getElem hin)
        rw [hv] at h15; cases h15
        exact ⟨_, h16, by rw [Nat.zero_mul, List.take_zero, List.nil_append, List.getElem?_append_left hin]; exact List.getElem?_eq_getElem hin⟩
      · cases hv
noncomputable def wrCopy (X : T XT) (t : TypeId) (x y : Operand) (env : T Value) (H : AHeap) (nx : Nat) (k : Option Value → AHeap → Nat → Option ρ) : Option ρ :=
  getK X t fun xt => slK xt.kd fun e => getK X e fun xe => evK x env fun v => match v with
    | .slice none l _ => srcNK xe.sz l y env H fun n _ => ckK (Nat.beq n 0) (k (some (.int .i64 0)) H nx)
    | .slice (some ⟨b, o, _⟩) l _ => srcNK xe.sz l y env H fun n si => getK H b fun obj => cellsK obj fun nb rs tt z ty' opn => ckK (Nat.beq rs xe.sz) (nfK (Nat.div o rs) fun q => ckK (Nat.beq (Nat.mul q rs) o) (ckK (Nat.ble (Nat.add q n) nb)
        (cpK rs n q nb tt z si fun t2 z2 => T.put (some (.cells nb rs t2 z2 ty' opn)) H b fun H' => k (some (.int .i64 n)) H' nx)))
    | _ => none
theorem run_call_copy {a : Act} {u v : Value} {ts : Array TypeId} {o : Oper} (ho : o.op = .call { callee := .builtin .copy, args := #[x, y], argTypes := ts }) (hx : a.eval x = u) (hy : a.eval y = v) {w w' : World} {r : Value}
    (h : ∀ ty, (Builtin.copy_ ts ty #[u, v]).run P w = .ok r w') : (execOp a.eval o).run P w = .ok (.value r) w' := by
  unfold execOp
  rw [ho]
  simp [resolve, invoke, builtin, hx, hy, h]
theorem wrCopy_some (hX : TyOK P X) {ts : Array TypeId} (h : wrCopy X t x y env H nx k = some r) (hts : ts[0]? = some t) : ∃ ov H' nx', WrOK P (.call { callee := .builtin .copy, args := #[x, y], argTypes := ts }) ty env H nx ov H' nx' ∧ k ov H' nx' = some r := by
  obtain ⟨xt, h1, h⟩ := getK_some h
  obtain ⟨e, h2, h⟩ := slK_some h
  obtain ⟨xe, h3, h⟩ := getK_some h
  obtain ⟨v, h4, h⟩ := evK_some h
  obtain ⟨d, hu, hk⟩ := (hX t xt h1).und
  rw [h2] at hk; simp only [KdOK] at hk; subst hk
  have hE := hX e xe h3
  split at h
  · rename_i l c
    obtain ⟨n, si, h, hsi⟩ := srcNK_some (P := P) h
    obtain ⟨h5, h⟩ := ckK_some h
    have h5 := Nat.eq_of_beq_eq_true h5
    subst h5
    refine ⟨_, _, _, fun m nn a w0 w F he hm hs => ?_, h⟩
    obtain ⟨ns, news, h6, h7, h8, h9, _⟩ := hsi m nn a w0 w F he hs
    refine ⟨m, w, Ren.ext_refl m _, hm, hs, _, ⟨.int .i64 0, rfl, rfl⟩, fun o ho _ => ?_⟩
    refine run_call_copy ho (h4.slice_none he) rfl fun ty => ?_
    simp only [Builtin.copy_, hts, List.getElem?_toArray, List.getElem?_cons_zero, List.getElem?_cons_succ, Sem.run_bind, run_undX hu, Result.andThen_ok, h6, hE.size, ← h7, h8]
    simp [goInt]
  · rename_i b o sp l c
    obtain ⟨n, si, h, hsi⟩ := srcNK_some (P := P) h
    obtain ⟨obj, h5, h⟩ := getK_some h
    obtain ⟨nb, rs, tt, z, ty', opn, rfl, hh⟩ := cellsK_some h
    clear h
    obtain ⟨h6, hh⟩ := ckK_some hh
    rw [nfK_eq] at hh
    obtain ⟨h7, hh⟩ := ckK_some hh
    obtain ⟨h8, hh⟩ := ckK_some hh
    have h6 := Nat.eq_of_beq_eq_true h6
    have h7 : o / rs * rs = o := Nat.eq_of_beq_eq_true h7
    have h8 : o / rs + n ≤ nb := Nat.le_of_ble_eq_true h8
    subst h6
    obtain ⟨t2, z2, hh, h10⟩ := cpK_some hh h8
    obtain ⟨H', hg, h9⟩ := T.put_spec _ _ _ _ _ hh
    refine ⟨_, _, _, fun m nn a w0 w F he hm hs => ?_, h9⟩
    obtain ⟨ns, news, h11, h12, h13, h14, h15⟩ := hsi m nn a w0 w F he hs
    obtain ⟨b', s, rr, h16, h17, h18⟩ := heap_get hs h5
    obtain ⟨cs, rfl, h19, h20, h21⟩ := h17.cr
    have h22 := h4.slice_some he h16
    obtain ⟨h23, h24⟩ := h10 m s cs news h21 h19 h14 h15
    have h24 : CR m nb xe.sz t2 z2 (cs.take o ++ news ++ cs.drop (o + news.length)) := by
      have e : Nat.div o xe.sz * xe.sz = o := h7
      rw [e] at h24; exact h24
    have hbnd : o + news.length ≤ cs.length := by
      have : (o / xe.sz + n) * xe.sz ≤ nb * xe.sz := Nat.mul_le_mul_right _ h8
      rw [Nat.add_mul, h7] at this
      rw [h14, h19, Nat.add_mul nb]; omega
    have h25 := run_storeCells (P := P) (b := b') (off := o) (ty' := ty') news 0 cs w h23 h18 (by rw [Nat.zero_add]; exact hbnd)
    refine ⟨m, _, Ren.ext_refl m _, hm, heap_put hs h5 h16 hg (ObjR.of_cr (m := m) (s := s) (opn := opn) (ty := ty') (by rw [List.length_append, List.length_append, List.length_take, List.length_drop, ← h19]; omega) h20 h24), _, ⟨.int .i64 n, rfl, rfl⟩, fun o' ho _ => ?_⟩
    refine run_call_copy ho h22 rfl fun ty => ?_
    simp only [Builtin.copy_, hts, List.getElem?_toArray, List.getElem?_cons_zero, List.getElem?_cons_succ, Sem.run_bind, run_undX hu, Result.andThen_ok, h11, hE.size, ← h12, h13, h25, Nat.add_zero]
    rfl
  · cases h

/-! ### bytes as a text -/
def byteK (row : List Value) (k : Nat → Option ρ) : Option ρ := match row with
  | [.int .u8 (.ofNat n)] => k n
  | _ => none
theorem byteK_some {row : List Value} {k : Nat → Option ρ} {r : ρ} (h : byteK row k = some r) : ∃ n : Nat, row = [.int .u8 (.ofNat n)] ∧ k n = some r := by
  unfold byteK at h; split at h
  · exact ⟨_, rfl, h⟩
  · cases h
noncomputable def rowBs (rows : List (List Value)) : (List UInt8 → Option ρ) → Option ρ :=
  List.rec (motive := fun _ => (List UInt8 → Option ρ) → Option ρ) (fun k => k []) (fun row _ ih k => byteK row fun n => ih fun bs => k (UInt8.ofNat n :: bs)) rows
def intsR : List (List Value) → List Int → Prop
  | [], ns => ns = []
  | row :: rows, ns => ∃ (n : Nat) (ns' : List Int), row = [.int .u8 (.ofNat n)] ∧ ns = (n : Int) :: ns' ∧ intsR rows ns'
theorem intsR.len : ∀ {rows : List (List Value)} {ns : List Int}, intsR rows ns → ns.length = rows.length
  | [], ns, h => by cases h; rfl
  | row :: rows, ns, h => by obtain ⟨n, ns', rfl, rfl, h⟩ := h; simp [h.len]
theorem intsR.get : ∀ {rows : List (List Value)} {ns : List Int}, intsR rows ns → ∀ (j : Nat) (z : Int), ns[j]? = some z → rows[j]? = some [.int .u8 z]
  | [], ns, h, j, z, hz => by cases h; simp at hz
  | row :: rows, ns, h, j, z, hz => by
    obtain ⟨n, ns', rfl, rfl, h⟩ := h
    cases j with
    | zero => simp at hz; subst hz; rfl
    | succ j => simp at hz; simpa using h.get j z hz
theorem rowBs_some : ∀ {rows : List (List Value)} {k : List UInt8 → Option ρ} {r : ρ}, rowBs rows k = some r → ∃ ns, intsR rows ns ∧ k (ns.map fun n => UInt8.ofNat n.toNat) = some r
  | [], k, r, h => ⟨[], rfl, h⟩
  | row :: rows, k, r, h => by
    obtain ⟨n, hn, h0⟩ := byteK_some (show byteK row (fun n => rowBs rows fun bs => k (UInt8.ofNat n :: bs)) = some r from h)
    obtain ⟨ns, h1, h2⟩ := rowBs_some h0
    exact ⟨(n : Int) :: ns, ⟨n, ns, hn, rfl, h1⟩, h2⟩
theorem strB_mk (ns : List Int) : strB ns = ByteArray.mk ⟨ns.map fun n => UInt8.ofNat n.toNat⟩ := by
  apply ByteArray.ext
  apply Array.toList_inj.1
  unfold strB
  rw [strB_data]
  rfl
def isU8 (x : XK) : Bool := match x with
  | .int .u8 => true
  | _ => false
theorem isU8_eq {x : XK} (h : isU8 x = true) : x = .int .u8 := by
  unfold isU8 at h; split at h
  · rfl
  · cases h
noncomputable def rdConvB (X : T XT) (e : TypeId) (v : Value) (H : AHeap) (k : Value → Option ρ) : Option ρ := match v with
  | .slice none 0 _ => k (.string ⟨⟨[]⟩⟩)
  | .slice (some ⟨b, o, _⟩) n _ => getK X e fun xe => ckK (isU8 xe.kd) (getK H b fun obj => cellsK obj fun nb rs tt z _ _ => ckK (Nat.beq rs 1) (ckK (Nat.ble (Nat.add o n) nb) (rowsFromK tt z n o fun rows => rowBs rows fun bs => k (.string ⟨⟨bs⟩⟩))))
  | _ => none
noncomputable def rdConv2 (X : T XT) (s t : TypeId) (x : Operand) (env : T Value) (H : AHeap) (k : Value → Option ρ) : Option ρ :=
  getK X t fun xt => match xt.kd with
    | .str => getK X s fun xs => (match xs.kd with
      | .sl e => evK x env fun v => getK X e fun xe => ckK (isU8 xe.kd) (rdConvB X e v H k)
      | _ => rdConv X s t x env H k)
    | _ => rdConv X s t x env H k
theorem rdConv2_some (hX : TyOK P X) {s : TypeId} {k : Value → Option ρ} (h : rdConv2 X s t x env H k = some r) : ∃ v, RdOK P (.convert s t x) ty env H v ∧ k v = some r := by
  obtain ⟨xt, h1, hh⟩ := getK_some h
  clear h
  split at hh
  · rename_i hkt
    obtain ⟨xs, h2, hh2⟩ := getK_some hh
    split at hh2
    · rename_i e hks
      obtain ⟨v, h3, hh3⟩ := evK_some hh2
      obtain ⟨xe, h4, hh4⟩ := getK_some hh3
      obtain ⟨h5, hh5⟩ := ckK_some hh4
      obtain ⟨dt, hut, hdt⟩ := (hX t xt h1).und
      rw [hkt] at hdt; simp only [KdOK] at hdt; subst hdt
      obtain ⟨ds, hus, hds⟩ := (hX s xs h2).und
      rw [hks] at hds; simp only [KdOK] at hds; subst hds
      obtain ⟨de, hue, hde⟩ := (hX e xe h4).und
      rw [isU8_eq h5] at hde; simp only [KdOK] at hde; subst hde
      unfold rdConvB at hh5
      split at hh5
      · rename_i c
        refine ⟨_, fun m n a w0 w F he hs => ?_, hh5⟩
        obtain ⟨u, h6, h7⟩ := h3 m n a he
        simp only [tr, Option.some.injEq] at h6; subst h6
        refine ⟨_, rfl, fun o ho _ => ?_⟩
        unfold execOp; rw [ho]
        simp only [h7, Sem.run_bind, run_convert_bytes_string w s t e none 0 c hus hue hut, Conv.bytesToString]
        rfl
      · rename_i b o sp n c
        obtain ⟨xe', _, h6⟩ := getK_some hh5
        obtain ⟨_, h7⟩ := ckK_some h6
        obtain ⟨obj, h8, h9⟩ := getK_some h7
        obtain ⟨nb, rs, tt, z, ty', opn, rfl, h10⟩ := cellsK_some h9
        obtain ⟨h11, h12⟩ := ckK_some h10
        obtain ⟨h13, h14⟩ := ckK_some h12
        have h11 := Nat.eq_of_beq_eq_true h11
        have h13 : o + n ≤ nb := Nat.le_of_ble_eq_true h13
        subst h11
        obtain ⟨rows, h15, h16, h17⟩ := rowsFromK_eq (tt := tt) (z := z) n o fun rows => rowBs rows fun bs => k (.string ⟨⟨bs⟩⟩)
        rw [h15] at h14
        obtain ⟨ns, h18, h19⟩ := rowBs_some h14
        refine ⟨_, fun m nn a w0 w F he hs => ?_, h19⟩
        obtain ⟨u, h20, h21⟩ := h3 m nn a he
        obtain ⟨b', s', rr, h22, h23, h24⟩ := heap_get hs h8
        simp only [tr, h22, Option.some.injEq] at h20; subst h20
        obtain ⟨cs, rfl, h25, h26, h27⟩ := h23.cr
        refine ⟨_, rfl, fun o' ho _ => ?_⟩
        have hR := rows_of h27 h17 (by rw [h16]; exact h13) (by rw [h25, Nat.add_mul]; omega)
        rw [h16, Nat.mul_one, Nat.mul_one] at hR
        have hnl : ns.length = n := by rw [h18.len, h16]
        have hld : (loadCells ⟨b', o, none⟩ n).run P w = .ok (ns.map (Value.int .u8)).toArray w := by
          have := run_loadCells_list (P := P) w ⟨b', o, none⟩ (ns.map (Value.int .u8)) fun j v hj => by
            rw [List.getElem?_map] at hj
            cases hz : ns[j]? with
            | none => rw [hz] at hj; cases hj
            | some i =>
              rw [hz] at hj
              simp only [Option.map_some, Option.some.injEq] at hj
              subst hj
              obtain ⟨x', hx1, hx2⟩ := hR.2 j _ 0 _ (h18.get j i hz) (by omega) rfl
              simp only [tr, Option.some.injEq] at hx1; subst hx1
              rw [Nat.mul_one, Nat.add_zero] at hx2
              exact cells_drop h24 j _ hx2
          rw [List.length_map, hnl] at this
          exact this
        unfold execOp; rw [ho]
        simp only [h21, Sem.run_bind, run_convert_bytes_string w s t e _ n _ hus hue hut, run_bytesToString w _ n _ ns hld]
        have := strB_mk ns
        unfold strB at this
        simp [this]
      · cases hh5
    · exact rdConv_some hX hh2
  · exact rdConv_some hX hh
end
end Go.Gsl
