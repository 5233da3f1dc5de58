/- A run of code by the kernel: functions: how they are entered and left. -/
import Derived.Test.YtemediifhpgdgaaGreatXC
import Derived.LoopNIn
import Derived.Test.YtemediifhpgdgaaGreatGA
namespace Go.Gsl
set_option linter.unusedVariables false

/-! ### the loops' part of the memory -/
theorem heap_cut {w0 w : World} {F : List Res} {H H' : AHeap} {m : Ren} {k b s : Nat} {o : AObj} {r' : Obj} (hs : Sat w0 w ((kH, HEAP H m) :: F)) (hk : H.get k = some o) (hm : m k = some (b, s)) (hg : ∀ j, H'.get j = if j = k then none else H.get j) :
    Sat w0 { w with heap := w.heap.setIfInBounds b r' } ((kH, HEAP H' m) :: F) := by
  obtain ⟨h0, x, hf, y, z, hd, rfl, ⟨h1, hi⟩, hF⟩ := hs
  obtain ⟨b', s', r, h2, h3, h4⟩ := h1 k o hk
  rw [hm] at h2; cases h2
  have hz : z b = none := by
    rcases hd b with h | h | ⟨p, h, _⟩
    · rw [h4] at h; cases h
    · exact h
    · rw [h4] at h; cases h
  have hw : w.heap[b]? = some r := hf b r false (by simp [hjoin, h4])
  have key : ∀ j oj, H'.get j = some oj → j ≠ k ∧ H.get j = some oj := fun j oj h => by
    rw [hg] at h
    by_cases hj : j = k
    · rw [if_pos hj] at h; cases h
    · rw [if_neg hj] at h; exact ⟨hj, h⟩
  refine ⟨h0, hset (hjoin y z) b (r', false), hf.set hw, hset y b (r', false), z, ?_, ?_, ⟨?_, ?_⟩, hF⟩
  · intro j
    by_cases hj : j = b
    · subst hj; exact .inr (.inl hz)
    · simp only [hset, hj, if_false]; exact hd j
  · funext j
    by_cases hj : j = b
    · subst hj; simp [hset, hjoin]
    · simp [hset, hjoin, hj]
  · intro j oj hoj
    obtain ⟨hj, hoj⟩ := key j oj hoj
    obtain ⟨b2, s2, r2, h5, h6, h7⟩ := h1 j oj hoj
    refine ⟨b2, s2, r2, h5, h6, ?_⟩
    have hne : b2 ≠ b := fun e => hj (hi j k oj o _ _ hoj hk h5 hm e)
    simp [hset, hne, h7]
  · intro j j' oj oj' x x' h5 h6 h7 h8 h9
    exact hi j j' oj oj' x x' (key j oj h5).2 (key j' oj' h6).2 h7 h8 h9
section
variable {w0 w : World} {F : List Res} {H LS LS' : AHeap} {m : Ren} {nx k b s : Nat} {o o' : AObj} {r' : Obj}
theorem MemR.ls (h : MemR w0 F m H LS nx w) (hk : LS.get k = some o) : ∃ b s r, m k = some (b, s) ∧ ObjR m s o r ∧ w.heap[b]? = some r := heap_get h.swap.2 hk
theorem MemR.lsPut (h : MemR w0 F m H LS nx w) (hk : LS.get k = some o) (hm : m k = some (b, s)) (hg : ∀ j, LS'.get j = if j = k then some o' else LS.get j) (ho : ObjR m s o' r') :
    MemR w0 F m H LS' nx { w with heap := w.heap.setIfInBounds b r' } := (show MemR w0 F m LS' H nx _ from ⟨h.1, heap_put h.swap.2 hk hm hg ho⟩).swap
theorem MemR.lsCut (h : MemR w0 F m H LS nx w) (hk : LS.get k = some o) (hm : m k = some (b, s)) (hg : ∀ j, LS'.get j = if j = k then none else LS.get j) :
    MemR w0 F m H LS' nx { w with heap := w.heap.setIfInBounds b r' } := (show MemR w0 F m LS' H nx _ from ⟨h.1, heap_cut h.swap.2 hk hm hg⟩).swap
theorem MemR.lsNew (h : MemR w0 F m H LS nx w) (hg : ∀ j, LS'.get j = if j = nx then some o' else LS.get j) (ho : ObjR m s o' r') :
    MemR w0 F (m.upd nx (w.heap.size, s)) H LS' (nx + 1) { w with heap := w.heap.push r' } := by
  have hn := h.1 nx (Nat.le_refl _)
  have h1 := heap_new h.swap.2 hn (heap_free h.swap.2 hn) hg ho
  exact ⟨h.1.upd, heap_mono (h1.ent (Ent.swap _ _ _)) (Ren.le_upd hn)⟩
theorem LOK.cut (hl : LOK LS) (hg : ∀ j, LS'.get j = if j = k then none else LS.get j) : LOK LS' := fun j env n ps as bd L st pe db hj => by
  rw [hg] at hj
  split at hj
  · cases hj
  · exact hl j env n ps as bd L st pe db hj
theorem LOK.put {env : T Value} {n : Nat} {ps : List Tmp} {as bd : Code} {L : T (List It)} {st : LoopState} {pe : Option Code} {db : Nat} (hl : LOK LS) (h1 : chk L n as = true) (h2 : chk L n bd = true) (h3 : ∀ p ∈ ps, p < n)
    (hg : ∀ j, LS'.get j = if j = k then some (.loop env n ps as bd L st pe db) else LS.get j) : LOK LS' := fun j env' n' ps' as' bd' L' st' pe' db' hj => by
  rw [hg] at hj
  split at hj
  · cases hj; exact ⟨h1, h2, h3⟩
  · exact hl j _ _ _ _ _ _ _ _ _ hj
theorem LOK.dfr (hl : LOK LS) (hg : ∀ j, LS'.get j = if j = k then some .dfr else LS.get j) : LOK LS' := fun j env' n' ps' as' bd' L' st' pe' db' hj => by
  rw [hg] at hj
  split at hj
  · cases hj
  · exact hl j _ _ _ _ _ _ _ _ _ hj
theorem LOK.lf : LOK .lf := fun j env n ps as bd L st pe db hj => by cases hj
end

/-! ### what is deferred -/
def DefR (m : Ren) : List DI → List Deferred → Prop
  | [], l => l = []
  | .mark k :: D, l => ∃ x l', m k = some x ∧ l = { target := .collected x.1, args := #[] } :: l' ∧ DefR m D l'
  | .call f cs :: D, l => ∃ xs l', trL m cs = some xs ∧ l = dCall f xs :: l' ∧ DefR m D l'
theorem DefR.mono {m m' : Ren} (h : m.le m') : ∀ {D : List DI} {l : List Deferred}, DefR m D l → DefR m' D l
  | [], _, hd => hd
  | .mark k :: D, _, ⟨x, l', h1, h2, h3⟩ => ⟨x, l', h.on _ _ h1, h2, h3.mono h⟩
  | .call f cs :: D, _, ⟨xs, l', h1, h2, h3⟩ => ⟨xs, l', trL_mono h _ _ h1, h2, h3.mono h⟩
/-- a deferred call that, with nothing to recover, leaves all as it is -/
def DfnOK (P : Program) (f : FuncId) (n : Nat) : Prop := ∀ xs : List Value, xs.length = n → (∀ w, (callFunc f xs.toArray).run P w = .ok (.enter f xs.toArray) w) ∧
  ∀ (w0 w : World) (Rs : List Res), Sat w0 w Rs → CallsDIn Fence.wide 0 P f xs.toArray .returning w fun x u' w' => (∃ v, x = .returned v) ∧ settle u' = .returning ∧ Sat w0 w' Rs

section
variable {ρ : Type} {P : Program} {r : ρ}
theorem leaveK_some {dfn : FuncId → Nat → Bool} (hdf : ∀ f n, dfn f n = true → DfnOK P f n) {k : AHeap → Option ρ} : ∀ {D : List DI} {LS : AHeap}, leaveK dfn D LS k = some r → LOK LS → ∃ LS', LOK LS' ∧ k LS' = some r ∧
    ∀ (m : Ren) (H : AHeap) (nx : Nat) (w w0 : World) (F : List Res) (ds : List Deferred) (fn : Func) (tmps : Array Value) (R : Ending → World → Prop), DefR m D ds → MemR w0 F m H LS nx w →
      (∀ w', MemR w0 F m H LS' nx w' → LeavesInM Fence.wide 0 P fn tmps R [] .returning w') → LeavesInM Fence.wide 0 P fn tmps R ds .returning w
  | [], LS, h, hl => ⟨LS, hl, h, fun m H nx w w0 F ds fn tmps R hd hm hk => by cases hd; exact hk w hm⟩
  | .mark b :: D, LS, h, hl => by
    obtain ⟨o, h1, h⟩ := getK_some (show getK LS b (fun o => match o with
      | .dfr => T.put none LS b fun LS => leaveK dfn D LS k
      | _ => none) = some r from h)
    split at h
    · obtain ⟨LS1, hg, h⟩ := T.put_spec _ _ _ _ _ h
      obtain ⟨LS', h2, h3, h4⟩ := leaveK_some hdf h (hl.cut hg)
      refine ⟨LS', h2, h3, fun m H nx w w0 F ds fn tmps R hd hm hk => ?_⟩
      obtain ⟨x, l', h5, rfl, h6⟩ := hd
      obtain ⟨b', s, rr, h7, h8, h9⟩ := hm.ls h1
      rw [h7] at h5; cases h5
      have h8 : rr = .deferred (some []) := h8
      subst h8
      refine ⟨by simp, .inl ⟨b', _, rfl, run_takeDeferred h9, ?_⟩⟩
      exact h4 m H nx _ w0 F l' fn tmps R h6 (hm.lsCut h1 h7 hg) hk
    · cases h
  | .call f cs :: D, LS, h, hl => by
    obtain ⟨h1, h⟩ := ckK_some (show ckK (dfn f cs.length) (leaveK dfn D LS k) = some r from h)
    obtain ⟨LS', h2, h3, h4⟩ := leaveK_some hdf h hl
    refine ⟨LS', h2, h3, fun m H nx w w0 F ds fn tmps R hd hm hk => ?_⟩
    obtain ⟨xs, l', h5, rfl, h6⟩ := hd
    obtain ⟨h7, h8⟩ := hdf f _ h1 xs (trL_len h5)
    refine ⟨by simp, .inr ⟨fun h => by simp [Fence.wide] at h, .func f, xs.toArray, f, xs.toArray, rfl, ?_, fun _ _ => trivial, ?_⟩⟩
    · show (invoke (.fn (.func f) xs.toArray) #[]).run P w = _
      simp only [invoke]
      rw [show (#[] : Array Value) ++ xs.toArray = xs.toArray by simp]
      exact h7 _
    · refine CallsDIn.mono (h8 w0 w _ hm.2) ?_
      rintro y u' w' ⟨⟨v0, rfl⟩, hu, hw'⟩
      show LeavesInM _ _ _ _ _ _ l' (settle u') w'
      rw [hu]
      exact h4 m H nx w' w0 F l' fn tmps R h6 ⟨hm.1, hw'⟩ hk

/-! ### results -/
/-- one result -/
def resM (tmps : Array Value) (x : ResultVar) : Sem Value := match x with
  | .tmp t => pure (tmps.getD t undef)
  | .cell a t => do loadVar t (← asAddr (tmps.getD a undef))
theorem results_eq (fn : Func) (tmps : Array Value) : results fn tmps = (do
  let vs ← fn.results.mapM (resM tmps)
  pure (if h : vs.size = 1 then vs[0] else .tuple vs)) := rfl
def ResOK (P : Program) (l : List ResultVar) (env : T Value) (H : AHeap) (vs : List Value) : Prop := ∀ (m : Ren) (n : Nat) (w w0 : World) (F : List Res) (tmps : Array Value), EnvR m env n tmps → Sat w0 w ((kH, HEAP H m) :: F) →
  ∃ xs, trL m vs = some xs ∧ (l.mapM (resM tmps)).run P w = .ok xs w
theorem res1_some {X : T XT} (hX : TyOK P X) {v : ResultVar} {env : T Value} {H : AHeap} {k : Value → Option ρ} (h : res1 X v env H k = some r) : ∃ u, k u = some r ∧ ∀ (m : Ren) (n : Nat) (w w0 : World) (F : List Res) (tmps : Array Value), EnvR m env n tmps → Sat w0 w ((kH, HEAP H m) :: F) →
    ∃ x, tr m u = some x ∧ (resM tmps v).run P w = .ok x w := by
  unfold res1 at h
  split at h
  · rename_i t
    obtain ⟨u, h1, h⟩ := getK_some h
    refine ⟨u, h, fun m n w w0 F tmps he hs => ?_⟩
    obtain ⟨x, h2, h3⟩ := he.2 t u h1
    exact ⟨x, h2, by simp [resM, Array.getD_eq_getD_getElem?, h3]⟩
  · rename_i a t
    obtain ⟨u, h1, h⟩ := getK_some h
    obtain ⟨b, o, rfl, h⟩ := ptrK_some h
    obtain ⟨obj, h2, h⟩ := getK_some h
    obtain ⟨xt, h3, h⟩ := getK_some h
    have hT := hX t xt h3
    obtain ⟨v, hk, hc⟩ := ldK_some h
    refine ⟨v, hk, fun m n w w0 F tmps he hs => ?_⟩
    obtain ⟨x, h4, h5⟩ := he.2 a _ h1
    obtain ⟨b', s, rr, h6, h7, h8⟩ := heap_get hs h2
    simp only [tr, trA, h6, Option.some.injEq] at h4
    subst h4
    have h9 : tmps.getD a undef = .pointer (some ⟨b', o, none⟩) := by simp [Array.getD_eq_getD_getElem?, h5]
    have := hT.agg
    rcases hc with ⟨hag, vs, rfl, hl, hL⟩ | ⟨hag, hL⟩
    · obtain ⟨xs, cs, ty', h10, h11, rfl, h12⟩ := hL m s rr h7
      refine ⟨.agg ⟨xs⟩, by simp only [tr, h10], ?_⟩
      have h13 := run_loadCells (P := P) (w := w) (b := b') (off := o) xs 0 #[] fun j x hj => by
        rw [Nat.zero_add]; exact cell_of h8 (h12 j x hj)
      rw [hag] at this
      simp [resM, h9, asAddr, loadVar, this, hT.size, loadCells, ← hl, ← h11, h13]
    · obtain ⟨xs, cs, ty', h10, h11, rfl, h12⟩ := hL m s rr h7
      obtain ⟨y, _, h13, h14, rfl⟩ := trL_cons.1 h10
      refine ⟨y, h13, ?_⟩
      have h15 := cell_of h8 (h12 0 y rfl)
      rw [hag] at this
      rw [show (⟨b', o + 0, none⟩ : Addr) = ⟨b', o, none⟩ from rfl] at h15
      simp [resM, h9, asAddr, loadVar, this, h15]
theorem resL'_some {X : T XT} (hX : TyOK P X) : ∀ {l : List ResultVar} {env : T Value} {H : AHeap} {k : List Value → Option ρ}, resL' X l env H k = some r → ∃ vs, k vs = some r ∧ vs.length = l.length ∧ ResOK P l env H vs
  | [], env, H, k, h => ⟨[], h, rfl, fun m n w w0 F tmps he hs => ⟨[], rfl, rfl⟩⟩
  | v :: l, env, H, k, h => by
    obtain ⟨u, h, h1⟩ := res1_some hX (show res1 X v env H (fun v => resL' X l env H fun vs => k (v :: vs)) = some r from h)
    obtain ⟨vs, h, hl, h2⟩ := resL'_some hX h
    refine ⟨u :: vs, h, by simp [hl], fun m n w w0 F tmps he hs => ?_⟩
    obtain ⟨x, h3, h4⟩ := h1 m n w w0 F tmps he hs
    obtain ⟨xs, h5, h6⟩ := h2 m n w w0 F tmps he hs
    refine ⟨x :: xs, trL_cons.2 ⟨x, xs, h3, h5, rfl⟩, ?_⟩
    rw [List.mapM_cons]
    simp only [Sem.run_bind, h4, Result.andThen_ok, h6, Sem.run_pure]
theorem resK_some {X : T XT} (hX : TyOK P X) {l : List ResultVar} {env : T Value} {H : AHeap} {k : Value → Option ρ} (h : resK X l env H k = some r) : ∃ v, k v = some r ∧ ∀ (m : Ren) (n : Nat) (w w0 : World) (F : List Res) (fn : Func) (tmps : Array Value), EnvR m env n tmps → Sat w0 w ((kH, HEAP H m) :: F) → fn.results.toList = l →
    ∃ x, tr m v = some x ∧ (results fn tmps).run P w = .ok x w := by
  have hres : ∀ (fn : Func) (tmps : Array Value) (w : World) (xs : List Value), fn.results.toList = l → (l.mapM (resM tmps)).run P w = .ok xs w → (results fn tmps).run P w = .ok (if h : xs.toArray.size = 1 then xs.toArray[0] else .tuple xs.toArray) w := fun fn tmps w xs hf hm => by
    subst hf
    rw [results_eq, Array.mapM_eq_mapM_toList]
    simp only [Sem.run_bind, map_eq_pure_bind, hm, Result.andThen_ok, Sem.run_pure]
  unfold resK at h
  split at h
  · rename_i v
    obtain ⟨u, h, h1⟩ := res1_some hX h
    refine ⟨u, h, fun m n w w0 F fn tmps he hs hf => ?_⟩
    obtain ⟨x, h2, h3⟩ := h1 m n w w0 F tmps he hs
    refine ⟨x, h2, ?_⟩
    rw [hres fn tmps w [x] hf (by rw [List.mapM_cons]; simp only [Sem.run_bind, h3, Result.andThen_ok, List.mapM_nil, Sem.run_pure])]
    rfl
  · rename_i l' hne
    obtain ⟨vs, h, hl, h1⟩ := resL'_some hX h
    refine ⟨_, h, fun m n w w0 F fn tmps he hs hf => ?_⟩
    obtain ⟨xs, h2, h3⟩ := h1 m n w w0 F tmps he hs
    refine ⟨.tuple ⟨xs⟩, by simp only [tr, h2], ?_⟩
    rw [hres fn tmps w xs hf h3, dif_neg]
    intro h4
    have h5 : xs.length = 1 := h4
    rw [trL_len h2, hl] at h5
    obtain ⟨v, rfl⟩ := List.length_eq_one_iff.1 h5
    exact hne v rfl

/-! ### arguments -/
theorem ArgR.get {m : Ren} : ∀ {os : List (Option Value)} {xs : List Value}, ArgR m os xs → ∀ (q : Nat) (v : Value), os[q]? = some (some v) → ∃ x, xs[q]? = some x ∧ tr m v = some x
  | [], _, _, q, v, h => by simp at h
  | o :: os, xs, ⟨x, xs', h1, h2, h3⟩, q, v, h => by
    subst h1
    cases q with
    | zero => simp at h; subst h; exact ⟨x, rfl, h2 v rfl⟩
    | succ q => simp at h; simpa using h3.get q v h
theorem argK_some : ∀ {vs : List (Option Value)} {i : Nat} {env : T Value} {k : T Value → Option ρ}, argK vs i env k = some r → ∃ env', k env' = some r ∧ ∀ j v, env'.get j = some v → (∃ q, j = i + q ∧ vs[q]? = some (some v)) ∨ env.get j = some v
  | [], i, env, k, h => ⟨env, h, fun j v hj => .inr hj⟩
  | some u :: vs, i, env, k, h => by
    obtain ⟨env1, hg, h⟩ := T.put_spec _ _ _ _ _ (show T.put (some u) env i (fun env => argK vs (i + 1) env k) = some r from h)
    obtain ⟨env', h, h1⟩ := argK_some h
    refine ⟨env', h, fun j v hj => ?_⟩
    rcases h1 j v hj with ⟨q, rfl, hq⟩ | h2
    · exact .inl ⟨q + 1, by omega, by simpa using hq⟩
    · rw [hg] at h2
      split at h2
      · rename_i e; subst e; cases h2; exact .inl ⟨0, by omega, rfl⟩
      · exact .inr h2
  | none :: vs, i, env, k, h => by
    obtain ⟨env', h, h1⟩ := argK_some (show argK vs (i + 1) env k = some r from h)
    refine ⟨env', h, fun j v hj => ?_⟩
    rcases h1 j v hj with ⟨q, rfl, hq⟩ | h2
    · exact .inl ⟨q + 1, by omega, by simpa using hq⟩
    · exact .inr h2
theorem args_env {m : Ren} {vs : List (Option Value)} {xs : List Value} {env : T Value} {n : Nat} (ha : ArgR m vs xs) (hn : vs.length ≤ n) (he : ∀ j v, env.get j = some v → ∃ q, j = q ∧ vs[q]? = some (some v)) : EnvR m env n (xs.toArray ++ Array.replicate (n - xs.toArray.size) undef) := by
  have hl := ha.len
  refine ⟨by simp [hl]; omega, fun j v hj => ?_⟩
  obtain ⟨q, rfl, hq⟩ := he j v hj
  obtain ⟨x, h1, h2⟩ := ha.get j v hq
  refine ⟨x, h2, ?_⟩
  have hlt := (List.getElem?_eq_some_iff.1 h1).1
  rw [Array.getElem?_append_left (by simpa using hlt)]
  simpa using h1
end
end Go.Gsl

namespace Go.Gsl
set_option linter.unusedVariables false

def RoundR (m : Ren) : Option Nat → Option Nat → Prop
  | none, rr => rr = none
  | some l, rr => ∃ x, m l = some x ∧ rr = some x.1
def WpQ (F : Fence) (P : Program) (f : Nat) (c : Code) (q : Exit → Act → World → Prop) (a : Act) (w : World) : Prop := match c with
  | .loop c1 => Code.roundsIn F 0 P c1 q f a w
  | c => c.wpIn F 0 P q a w
theorem WpQ.wp {F : Fence} {P : Program} {f : Nat} {c : Code} {q : Exit → Act → World → Prop} {a : Act} {w : World} (h : WpQ F P f c q a w) : c.wpIn F 0 P q a w := by
  unfold WpQ at h
  split at h
  · exact wpIn_loop_rounds f h
  · exact h
/-- code that is carried out -/
def ExOK (P : Program) (f : Nat) (r : Option Nat) (n : Nat) (c : Code) (env : T Value) (D : List DI) (H LS : AHeap) (nx : Nat) (x : AX) (env' : T Value) (D' : List DI) (H' LS' : AHeap) (nx' : Nat) : Prop :=
  ∀ (m : Ren) (a : Act) (w w0 : World) (F : List Res) (rr : Option Nat) (q : Exit → Act → World → Prop), RoundR m r rr → Calm' q → EnvR m env n a.tmps → DefR m D a.defers → MemR w0 F m H LS nx w →
    (∀ m' a' w', m.ext nx m' → EnvR m' env' n a'.tmps → DefR m' D' a'.defers → MemR w0 F m' H' LS' nx' w' → q x.x a' w') → WpQ (fz rr) P f c q a w
section
variable {ρ : Type}
def ExS (P : Program) (f : Nat) (ih : ExT ρ) : Prop := ∀ L n r c env D H LS nx k res, chk L n c = true → LOK LS → ih L n r c env D H LS nx k = some res →
  ∃ x env' D' H' LS' nx', (nx ≤ nx' ∧ LOK LS') ∧ ExOK P f r n c env D H LS nx x env' D' H' LS' nx' ∧ k x env' D' H' LS' nx' = some res
/-- a call of a function that has a body -/
def ClOK (P : Program) (g : FuncId) (vs : List (Option Value)) (H LS : AHeap) (nx : Nat) (v : Value) (H' LS' : AHeap) (nx' : Nat) : Prop :=
  nx ≤ nx' ∧ ∀ (m : Ren) (w w0 : World) (F : List Res) (xs : List Value) (K : Value → World → Prop), ArgR m vs xs → MemR w0 F m H LS nx w →
    (∀ m' x w', m.ext nx m' → tr m' v = some x → MemR w0 F m' H' LS' nx' w' → K x w') → Calls P g xs.toArray w fun e w' => ∃ x, e = .returned x ∧ K x w'
/-- .. of any function -/
def FnOK (P : Program) (g : FuncId) (vs : List (Option Value)) (H LS : AHeap) (nx : Nat) (v : Value) (H' LS' : AHeap) (nx' : Nat) : Prop :=
  nx ≤ nx' ∧ ∀ (m : Ren) (w w0 : World) (F : List Res) (xs : List Value) (K : Value → World → Prop), ArgR m vs xs → MemR w0 F m H LS nx w →
    (∀ m' x w', m.ext nx m' → tr m' v = some x → MemR w0 F m' H' LS' nx' w' → K x w') → UpOK P K ((callFunc g xs.toArray).run P w)
def ExtOK (P : Program) (g : FuncId) : Ext → Prop
  | .load => AtLoad P g .i64
  | .store => AtStore P g .i64
  | .add => AtAdd P g .i64
def PrimOK (P : Program) (g : FuncId) (p : PrimT ρ) : Prop := ∀ vs H nx k r, p vs H nx k = some r → ∃ v H' nx', (∀ LS, FnOK P g vs H LS nx v H' LS nx') ∧ k v H' nx' = some r
structure BdOK (P : Program) (g : FuncId) (b : FB) : Prop where
  fn : ∃ fn, P.funcs[g]? = some fn ∧ fn.body = some b.c ∧ fn.ntmps = b.n ∧ fn.results.toList = b.res
  chk : chk b.L b.n b.c = true
  call : ∀ args w, (callFunc g args).run P w = .ok (.enter g args) w
/-- the tables are the program's -/
structure PgOK (P : Program) (pg : Pg ρ) : Prop where
  cf : CfOK P pg.cf
  body : ∀ g b, pg.FT.get g = some (.body b) → BdOK P g b
  ext : ∀ g e, pg.FT.get g = some (.ext e) → ExtOK P g e
  prim : ∀ g, pg.FT.get g = some .prim → PrimOK P g (pg.prim g)
  dfn : ∀ f n, pg.dfn f n = true → DfnOK P f n
  mix : P.follows .mixedOrders = true

variable {P : Program} {pg : Pg ρ} {ih : ExT ρ} {f : Nat} {r : ρ}
theorem endK_some {x : AX} {k : Option ρ} (h : endK x k = some r) : (x = .nrm ∨ x = .ret) ∧ k = some r := by
  cases x with
  | nrm => exact ⟨.inl rfl, h⟩
  | ret => exact ⟨.inr rfl, h⟩
  | ex id => cases h
theorem bodyK_some (hp : PgOK P pg) (hih : ExS P f ih) {g : FuncId} {b : FB} (hb : BdOK P g b) {vs : List (Option Value)} {H LS : AHeap} {nx : Nat} {k : Value → AHeap → AHeap → Nat → Option ρ} (hl : LOK LS) (h : bodyK pg ih b vs H LS nx k = some r) :
    ∃ v H' LS' nx', ClOK P g vs H LS nx v H' LS' nx' ∧ LOK LS' ∧ k v H' LS' nx' = some r := by
  obtain ⟨h1, h⟩ := ckK_some h
  obtain ⟨env, h, h2⟩ := argK_some h
  obtain ⟨x, env', D', H1, LS1, nx1, ⟨h3, hl1⟩, h4, h⟩ := hih _ _ _ _ _ _ _ _ _ _ _ hb.chk hl h
  obtain ⟨hx, h⟩ := endK_some h
  obtain ⟨LS', hl2, h, h5⟩ := leaveK_some (P := P) hp.dfn h hl1
  obtain ⟨v, h, h6⟩ := resK_some (P := P) hp.cf.X h
  obtain ⟨fn, f1, f2, f3, f4⟩ := hb.fn
  refine ⟨v, H1, LS', nx1, ⟨h3, fun m w w0 F xs K ha hm hk => ?_⟩, hl2, h⟩
  refine callsIn_wide.1 (callsIn_of_wp_marks (n := 0) f1 f2 trivial ?_)
  have henv : EnvR m env b.n (xs.toArray ++ Array.replicate (b.n - xs.toArray.size) undef) := args_env ha (Nat.le_of_ble_eq_true h1) fun j v hj => by
    rcases h2 j v hj with ⟨q, hq1, hq2⟩ | hj'
    · exact ⟨q, by omega, hq2⟩
    · cases hj'
  rw [f3]
  have key := h4 m { tmps := xs.toArray ++ Array.replicate (b.n - xs.toArray.size) undef, defers := [] } w w0 F none (fun x a w => (∀ c, x ≠ .panic c) ∧ bodyPostM Fence.wide 0 P fn (fun e w' => ∃ x, e = .returned x ∧ K x w') x a w)
    rfl (fun c a d v w hq => absurd rfl (hq.1 c)) henv rfl hm fun m' a' w' g1 g2 g3 g4 => ?_
  · exact Code.wpIn_mono (fun _ _ _ q => q.2) key.wp
  · have hlv : LeavesInM Fence.wide 0 P fn a'.tmps (fun e w' => ∃ x, e = .returned x ∧ K x w') a'.defers .returning w' := h5 m' H1 nx1 w' w0 F a'.defers fn a'.tmps _ g3 g4 fun w2 g5 => by
      obtain ⟨u, g6, g7⟩ := h6 m' b.n w2 w0 _ fn a'.tmps g2 g5.2 f4
      exact ⟨u, g7, u, rfl, hk m' u w2 g1 g6 g5⟩
    rcases hx with rfl | rfl
    · exact ⟨fun c hc => (by cases hc), hlv⟩
    · exact ⟨fun c hc => (by cases hc), hlv⟩
theorem fn_of_cl {g : FuncId} {b : FB} (hb : BdOK P g b) {vs : List (Option Value)} {H LS : AHeap} {nx : Nat} {v : Value} {H' LS' : AHeap} {nx' : Nat} (h : ClOK P g vs H LS nx v H' LS' nx') : FnOK P g vs H LS nx v H' LS' nx' :=
  ⟨h.1, fun m w w0 F xs K ha hm hk => by rw [hb.call]; exact h.2 m w w0 F xs K ha hm hk⟩
theorem frz {w : World} {b o : Nat} {cs : Array Value} {ty : TypeId} (hb : w.heap[b]? = some (.cells cs ty (0, 0))) : w.frozen? ⟨b, o, none⟩ = false := by simp [World.frozen?, hb]
theorem kd3 {kd : IntKind} (h : Nat.beq (kdN kd) 3 = true) : kd = .i64 := kdN_inj (b := .i64) h
theorem set_one (cs : List Value) (o : Nat) (x : Value) (h : o < cs.length) : cs.toArray.setIfInBounds o x = (cs.take o ++ [x] ++ cs.drop (o + 1)).toArray := by
  have := List.set_eq_take_append_cons_drop (l := cs) (i := o) (a := x)
  rw [if_pos h] at this
  simp [this]
theorem extK_some {g : FuncId} {e : Ext} (he : ExtOK P g e) {vs : List (Option Value)} {H : AHeap} {nx : Nat} {k : Value → AHeap → Option ρ} (h : extK e vs H k = some r) : ∃ v H', (∀ LS, FnOK P g vs H LS nx v H' LS nx) ∧ k v H' = some r := by
  unfold extK at h
  split at h
  · rename_i b o vs
    obtain ⟨obj, h1, h2⟩ := getK_some h
    clear h
    obtain ⟨old, h3, hld⟩ := ldK_some h2
    clear h2
    rcases hld with ⟨hc, _⟩ | ⟨_, hld⟩
    · cases hc
    obtain ⟨kd, x, rfl, h4⟩ := intK_some h3
    clear h3
    obtain ⟨h5, h⟩ := ckK_some h4
    clear h4
    have h5 := kd3 h5
    subst h5
    have hcell : ∀ {m : Ren} {w w0 : World} {F : List Res}, Sat w0 w ((kH, HEAP H m) :: F) → ∃ b' s cs ty', m b = some (b', s) ∧ ObjR m s obj (.cells cs ty' (0, 0)) ∧ w.heap[b']? = some (.cells cs ty' (0, 0)) ∧ w.cell? ⟨b', o, none⟩ = some (.int .i64 x) := fun {m w w0 F} hs => by
      obtain ⟨b', s, rr, h6, h7, h8⟩ := heap_get hs h1
      obtain ⟨xs, cs, ty', h9, h10, rfl, h11⟩ := hld m s rr h7
      simp only [trL, tr, Option.some.injEq] at h9; subst h9
      exact ⟨b', s, cs, ty', h6, h7, h8, cell_of h8 (h11 0 _ rfl)⟩
    have hput : ∀ (y : Int) (k' : AHeap → Option ρ), (stK' [.int .i64 y] o obj fun obj' => T.put (some obj') H b fun H' => k' H') = some r → ∃ H', k' H' = some r ∧ ∀ {m : Ren} {w w0 : World} {F : List Res}, Sat w0 w ((kH, HEAP H m) :: F) → ∀ b' s, m b = some (b', s) →
        Sat w0 (w.setCell ⟨b', o, none⟩ (.int .i64 y)) ((kH, HEAP H' m) :: F) := fun y k' h => by
      obtain ⟨obj', h, h6⟩ := stK'_some h
      obtain ⟨H', hg, h⟩ := T.put_spec _ _ _ _ _ h
      refine ⟨H', h, fun {m w w0 F} hs b' s hb => ?_⟩
      obtain ⟨b2, s2, rr, h7, h8, h9⟩ := heap_get hs h1
      rw [hb] at h7; cases h7
      obtain ⟨cs, ty', rfl, h10, h11⟩ := h6 m s rr [.int .i64 y] h8 rfl
      have h12 := heap_put hs h1 hb hg h11
      rw [setCell_eq h9, set_one cs o _ (by have := h10; simp at this; omega)]
      exact h12
    split at h
    · refine ⟨_, _, fun LS => ⟨Nat.le_refl _, fun m w w0 F xs K ha hm hk => ?_⟩, h⟩
      obtain ⟨a0, xs, rfl, ha0, ha⟩ := ha
      have ha0 := ha0 _ rfl
      cases ha
      obtain ⟨b', s, cs, ty', h6, h7, h8, h9⟩ := hcell hm.2
      simp only [tr, trA, h6, Option.some.injEq] at ha0; subst ha0
      have h10 := he.out ⟨b', o, none⟩ x w h9
      exact upOK_cast h10 (hk m _ w (Ren.ext_refl m _) rfl hm)
    · rename_i v
      obtain ⟨kd', y, rfl, h6⟩ := intK_some h
      obtain ⟨h7, h8⟩ := ckK_some h6
      have h7 := kd3 h7
      subst h7
      obtain ⟨H', h9, h10⟩ := hput y _ h8
      refine ⟨_, _, fun LS => ⟨Nat.le_refl _, fun m w w0 F xs K ha hm hk => ?_⟩, h9⟩
      obtain ⟨a0, xs, rfl, ha0, a1, xs, rfl, ha1, ha⟩ := ha
      have ha0 := ha0 _ rfl
      have ha1 := ha1 _ rfl
      cases ha
      obtain ⟨b', s, cs, ty', h11, h12, h13, h14⟩ := hcell hm.2
      simp only [tr, trA, h11, Option.some.injEq] at ha0; subst ha0
      simp only [tr, Option.some.injEq] at ha1; subst ha1
      have h15 := he.out ⟨b', o, none⟩ _ y w h14 (frz h13)
      refine upOK_cast h15 (hk m _ _ (Ren.ext_refl m _) ?_ ⟨hm.1, h10 hm.2 b' s h11⟩)
      simp only [tr, trL]
    · rename_i v
      obtain ⟨kd', y, rfl, h6⟩ := intK_some h
      obtain ⟨h7, h8⟩ := ckK_some h6
      have h7 := kd3 h7
      subst h7
      rw [wrapK_eq] at h8
      obtain ⟨H', h9, h10⟩ := hput _ _ h8
      refine ⟨_, _, fun LS => ⟨Nat.le_refl _, fun m w w0 F xs K ha hm hk => ?_⟩, h9⟩
      obtain ⟨a0, xs, rfl, ha0, a1, xs, rfl, ha1, ha⟩ := ha
      have ha0 := ha0 _ rfl
      have ha1 := ha1 _ rfl
      cases ha
      obtain ⟨b', s, cs, ty', h11, h12, h13, h14⟩ := hcell hm.2
      simp only [tr, trA, h11, Option.some.injEq] at ha0; subst ha0
      simp only [tr, Option.some.injEq] at ha1; subst ha1
      have h15 := he.out ⟨b', o, none⟩ _ y w h14 (frz h13)
      exact upOK_cast h15 (hk m _ _ (Ren.ext_refl m _) rfl ⟨hm.1, h10 hm.2 b' s h11⟩)
    · cases h
  · cases h
theorem callF_some (hp : PgOK P pg) (hih : ExS P f ih) {g : FuncId} {vs : List (Option Value)} {H LS : AHeap} {nx : Nat} {k : Value → AHeap → AHeap → Nat → Option ρ} (hl : LOK LS) (h : callF pg ih g vs H LS nx k = some r) :
    ∃ v H' LS' nx', FnOK P g vs H LS nx v H' LS' nx' ∧ LOK LS' ∧ k v H' LS' nx' = some r := by
  obtain ⟨fk, h1, h⟩ := getK_some h
  cases fk with
  | body b =>
    obtain ⟨v, H', LS', nx', h2, h3, h4⟩ := bodyK_some hp hih (hp.body g b h1) hl h
    exact ⟨v, H', LS', nx', fn_of_cl (hp.body g b h1) h2, h3, h4⟩
  | ext e =>
    obtain ⟨v, H', h2, h3⟩ := extK_some (nx := nx) (hp.ext g e h1) h
    exact ⟨v, H', LS, nx, h2 LS, hl, h3⟩
  | prim =>
    obtain ⟨v, H', nx', h2, h3⟩ := hp.prim g h1 _ _ _ _ _ h
    exact ⟨v, H', LS, nx', h2 LS, hl, h3⟩
end
end Go.Gsl

namespace Go.Gsl
set_option linter.unusedVariables false
section
variable {ρ : Type} {P : Program} {pg : Pg ρ} {ih : ExT ρ} {f : Nat} {r : ρ}
theorem loopK_some {o : AObj} {k : T Value → Nat → List Tmp → Code → Code → T (List It) → LoopState → Option Code → Nat → Option ρ} (h : loopK o k = some r) : ∃ env n ps as bd L st pe db, o = .loop env n ps as bd L st pe db ∧ k env n ps as bd L st pe db = some r := by
  unfold loopK at h; split at h
  · exact ⟨_, _, _, _, _, _, _, _, _, rfl, h⟩
  · cases h
/-- the round's parameters -/
theorem parK_some : ∀ {ps : List Tmp} {env : T Value} {vs : List (Option Value)} {k : T Value → Option ρ}, parK ps env k vs = some r → ∃ env', k env' = some r ∧ ps.length = vs.length ∧
    ∀ (m : Ren) (n : Nat) (tmps : Array Value) (xs : List Value), (∀ p ∈ ps, p < n) → EnvR m env n tmps → ArgR m vs xs → EnvR m env' n ((ps.zip xs).foldl (fun t (p : Nat × Value) => t.setIfInBounds p.1 p.2) tmps)
  | [], env, [], k, h => ⟨env, h, rfl, fun m n tmps xs _ he ha => he⟩
  | [], env, v :: vs, k, h => by cases h
  | p :: ps, env, [], k, h => by cases h
  | p :: ps, env, v :: vs, k, h => by
    obtain ⟨env1, hg, h⟩ := T.put_spec _ _ _ _ _ (show T.put v env p (fun env => parK ps env k vs) = some r from h)
    obtain ⟨env', h, hlen, h1⟩ := parK_some h
    refine ⟨env', h, by simp [hlen], fun m n tmps xs hp he ha => ?_⟩
    obtain ⟨x, xs, rfl, hx, ha⟩ := ha
    refine h1 m n _ xs (fun q hq => hp q (List.mem_cons_of_mem _ hq)) ?_ ha
    refine ⟨by simp [he.1], fun j u hu => ?_⟩
    rw [hg] at hu
    by_cases hj : j = p
    · subst hj
      rw [if_pos rfl] at hu; subst hu
      exact ⟨x, hx u rfl, by simp [he.1, hp j List.mem_cons_self]⟩
    · rw [if_neg hj] at hu
      obtain ⟨y, h2, h3⟩ := he.2 j u hu
      refine ⟨y, h2, ?_⟩
      rw [Array.getElem?_setIfInBounds_ne (Ne.symm hj)]; exact h3
theorem rndK_some {x : AX} {k : Bool → Option Code → LoopState → Option ρ} (h : rndK x k = some r) : ∃ b pe st, k b pe st = some r ∧
    ((x = .nrm ∧ b = true ∧ pe = none ∧ st = .ready) ∨ (x = .ret ∧ b = false ∧ pe = some .ret ∧ st = .done) ∨ ∃ id, x = .ex id ∧ b = false ∧ pe = some (.exit id) ∧ st = .done) := by
  cases x with
  | nrm => exact ⟨_, _, _, h, .inl ⟨rfl, rfl, rfl, rfl⟩⟩
  | ret => exact ⟨_, _, _, h, .inr (.inl ⟨rfl, rfl, rfl, rfl⟩)⟩
  | ex id => exact ⟨_, _, _, h, .inr (.inr ⟨id, rfl, rfl, rfl, rfl⟩)⟩
theorem yieldK_some (hih : ExS P f ih) {l : Nat} {vs : List (Option Value)} {H LS : AHeap} {nx : Nat} {k : Value → AHeap → AHeap → Nat → Option ρ} (hl : LOK LS) (h : yieldK ih l vs H LS nx k = some r) :
    ∃ v H' LS' nx', (nx ≤ nx' ∧ ∀ (m : Ren) (w w0 : World) (F : List Res) (x : Nat × Nat) (xs : List Value) (K : Value → World → Prop), m l = some x → ArgR m vs xs → MemR w0 F m H LS nx w →
      (∀ m' x w', m.ext nx m' → tr m' v = some x → MemR w0 F m' H' LS' nx' w' → K x w') → UpOK P K ((Instr.yield x.1 xs.toArray).run P w)) ∧ LOK LS' ∧ k v H' LS' nx' = some r := by
  obtain ⟨o, h1, h2⟩ := getK_some h
  clear h
  obtain ⟨env, n, ps, as, bd, L, st, pe, db, rfl, h3⟩ := loopK_some h2
  clear h2
  obtain ⟨env1, h4, hlen, h5⟩ := parK_some h3
  clear h3
  obtain ⟨hc1, hc2, hps⟩ := hl l env n ps as bd L st pe db h1
  obtain ⟨x1, env2, D2, H1, LS1, nx1, ⟨hn1, hl1⟩, hE1, h6⟩ := hih _ _ _ _ _ _ _ _ _ _ _ hc1 hl h4
  clear h4
  split at h6
  · obtain ⟨o2, h7, h8⟩ := getK_some h6
    clear h6
    obtain ⟨e2, n2, ps2, as2, bd2, L2, st2, pe2, db2, rfl, h9⟩ := loopK_some h8
    clear h8
    obtain ⟨h10, h11⟩ := ckK_some h9
    clear h9
    have hst : st2 = .ready := by cases st2 <;> first | rfl | cases h10
    subst hst
    obtain ⟨LS2, hg2, h12⟩ := T.put_spec _ _ _ _ _ h11
    clear h11
    obtain ⟨q1, q2, q3⟩ := hl1 l _ _ _ _ _ _ _ _ _ h7
    have hl2 : LOK LS2 := hl1.put q1 q2 q3 hg2
    obtain ⟨x3, env3, D3, H3, LS3, nx3, ⟨hn3, hl3⟩, hE3, h13⟩ := hih _ _ _ _ _ _ _ _ _ _ _ hc2 hl2 h12
    clear h12
    split at h13
    · obtain ⟨o3, h14, h15⟩ := getK_some h13
      clear h13
      obtain ⟨e3, n3, ps3, as3, bd3, L3, st3, pe3, db3, rfl, h16⟩ := loopK_some h15
      clear h15
      obtain ⟨b, pe', st', h17, hx⟩ := rndK_some h16
      clear h16
      obtain ⟨LS4, hg4, h18⟩ := T.put_spec _ _ _ _ _ h17
      clear h17
      obtain ⟨p1, p2, p3⟩ := hl3 l _ _ _ _ _ _ _ _ _ h14
      refine ⟨.bool b, H3, LS4, nx3, ⟨by omega, fun m w w0 F x xs K hm ha hM hK => ?_⟩, hl3.put p1 p2 p3 hg4, h18⟩
      obtain ⟨bl, s, rr, h19, hO, h21⟩ := hM.ls h1
      rw [hm] at h19; cases h19
      obtain ⟨fn, tmps, dx, hdb, hev, rfl⟩ := hO
      have hsz : xs.toArray.size = ps.toArray.size := by simp [ha.len, hlen]
      have hy := run_yield (P := P) (args := xs.toArray) h21 hsz
      refine upOK_cast hy ?_
      show ∀ rr, RoundIn (fz rr) 0 P bl fn _ as bd w _
      intro rr
      refine roundIn_of_wpIn (F := fz rr) trivial ?_
      have hfold : ((ps.toArray.zip xs.toArray).foldl (fun tmps (x : Nat × Value) => tmps.setIfInBounds x.1 x.2) tmps) = (ps.zip xs).foldl (fun t (p : Nat × Value) => t.setIfInBounds p.1 p.2) tmps := by
        rw [← Array.foldl_toList]; simp
      have henv := h5 m n tmps xs hps hev ha
      rw [← hfold] at henv
      have key := hE1 m { tmps := (ps.toArray.zip xs.toArray).foldl (fun tmps (x : Nat × Value) => tmps.setIfInBounds x.1 x.2) tmps, defers := [] } w w0 F (some bl)
        (Exit.then (fun a₁ w₁ => ∃ w₂, (Instr.beginRound bl).run P w₁ = .ok () w₂ ∧ bd.wpIn (fz (some bl)) 0 P (roundPost P bl fun e w' => ∃ x, e = .returned x ∧ K x w') a₁ w₂) (fun _ _ _ => False))
        ⟨_, hm, rfl⟩ (fun c a d v w hq => hq) henv rfl hM fun m1 a1 w1 g1 g2 g3 g4 => ?_
      · exact key.wp
      · obtain ⟨b2, s2, r2, h22, hO2, h24⟩ := g4.ls h7
        have hm1 : m1 l = some (bl, s) := (g1.le hM.1).on l _ hm
        rw [hm1] at h22; cases h22
        obtain ⟨fn2, tmps2, dx2, hdb2, hev2, rfl⟩ := hO2
        refine ⟨_, run_beginRound h24 rfl, ?_⟩
        have g5 : MemR w0 F m1 H1 LS2 nx1 { w1 with heap := w1.heap.setIfInBounds bl (.loop { state := .busy, pending := pe2, fn := fn2, tmps := tmps2, params := ps2.toArray, assign := as2, body := bd2, defers := dx2.1 }) } :=
          g4.lsPut h7 hm1 hg2 ⟨fn2, tmps2, dx2, hdb2, hev2, rfl⟩
        have key2 := hE3 m1 a1 _ w0 F (some bl) (roundPost P bl fun e w' => ∃ x, e = .returned x ∧ K x w') ⟨_, hm1, rfl⟩ (fun c a d v w hq => hq) g2 g3 g5 fun m3 a3 w3 k1 k2 k3 k4 => ?_
        · exact key2.wp
        · obtain ⟨b3, s3, r3, h25, hO3, h27⟩ := k4.ls h14
          have hm3 : m3 l = some (bl, s) := (k1.le g5.1).on l _ hm1
          rw [hm3] at h25; cases h25
          obtain ⟨fn3, tmps3, dx3, hdb3, hev3, rfl⟩ := hO3
          have fin : ∀ jump, pe' = jump → b = jump.isNone → st' = (if jump.isNone then .ready else .done) → ∃ v w', (Instr.endRound bl jump).run P w3 = .ok v w' ∧ ∃ x, Ending.returned v = .returned x ∧ K x w' := fun jump e1 e2 e3 => by
            refine ⟨_, _, run_endRound (P := P) jump h27, _, rfl, ?_⟩
            refine hK m3 _ _ (g1.trans k1 hn1) ?_ ?_
            · rw [e2]; rfl
            · subst e1; subst e3
              exact k4.lsPut h14 hm3 hg4 ⟨fn3, tmps3, dx3, hdb3, hev3, rfl⟩
          rcases hx with ⟨rfl, rfl, rfl, rfl⟩ | ⟨rfl, rfl, rfl, rfl⟩ | ⟨id, rfl, rfl, rfl, rfl⟩
          · exact fin none rfl rfl rfl
          · exact fin (some .ret) rfl rfl rfl
          · exact fin (some (.exit id)) rfl rfl rfl
    · cases h13
  · cases h6

theorem somes_eq : ∀ (l : List Value) (tl : List (Option Value)), somes l tl = l.map some ++ tl
  | [], tl => rfl
  | v :: l, tl => by show some v :: somes l tl = _; rw [somes_eq l tl]; rfl
theorem appO_eq : ∀ (l tl : List (Option Value)), appO l tl = l ++ tl
  | [], tl => rfl
  | v :: l, tl => by show v :: appO l tl = _; rw [appO_eq l tl]; rfl
theorem callV_sound (hp : PgOK P pg) (hih : ExS P f ih) : CvSound P (callV pg ih) := by
  intro fv vs H LS nx k r hl h
  unfold callV at h
  split at h
  · rename_i g fs cs
    obtain ⟨v, H', LS', nx', h1, h2, h3⟩ := callF_some hp hih hl h
    refine ⟨v, H', LS', nx', ⟨h1.1, fun m w w0 F fx xs K hf ha hm hk => ?_⟩, h2, h3⟩
    simp only [tr, trF] at hf
    split at hf
    · rename_i fn a b hfn ha' hb'
      cases hfn
      cases hf
      have h4 := h1.2 m w w0 F (a ++ (xs ++ b)) K (by
        rw [somes_eq, appO_eq, somes_eq, List.append_nil]
        exact (ArgR.of_tr ha').app (ha.app (ArgR.of_tr hb'))) hm hk
      refine upOK_cast ?_ h4
      simp [callSem, Deferred.ofValue, invoke]
    · cases hf
  · rename_i l
    obtain ⟨v, H', LS', nx', h1, h2, h3⟩ := yieldK_some hih hl h
    refine ⟨v, H', LS', nx', ⟨h1.1, fun m w w0 F fx xs K hf ha hm hk => ?_⟩, h2, h3⟩
    simp only [tr, trF, trL] at hf
    cases hx : m l with
    | none => rw [hx] at hf; cases hf
    | some x =>
      rw [hx] at hf
      cases hf
      refine upOK_cast ?_ (h1.2 m w w0 F x xs K hx ha hm hk)
      simp [callSem, Deferred.ofValue, invoke]
  · cases h
end
end Go.Gsl

namespace Go.Gsl
set_option linter.unusedVariables false
section
variable {ρ : Type} {P : Program} {pg : Pg ρ} {ih : ExT ρ} {f n : Nat} {res : ρ} {cf : Cf} {cv : CallV ρ} {r : Option Nat} {ops : List Oper}
/-- what a list of operations comes to -/
def LsOK (P : Program) (ops l : List Oper) (r : Option Nat) (n : Nat) (env : T Value) (D : List DI) (H LS : AHeap) (nx : Nat) (env' : T Value) (D' : List DI) (H' LS' : AHeap) (nx' : Nat) : Prop :=
  ∀ (m : Ren) (a : Act) (w w0 : World) (F : List Res) (rr : Option Nat) (q : Exit → Act → World → Prop), RoundR m r rr → EnvR m env n a.tmps → DefR m D a.defers → MemR w0 F m H LS nx w →
    (∀ m' a' w', m.ext nx m' → EnvR m' env' n a'.tmps → DefR m' D' a'.defers → MemR w0 F m' H' LS' nx' w' → q .normal a' w') → wpListIn (fz rr) 0 P ops.toArray q l a w
theorem RoundR.ext {m m' : Ren} {rr : Option Nat} (h : RoundR m r rr) (hl : m.le m') : RoundR m' r rr := by
  cases r with
  | none => exact h
  | some l => obtain ⟨x, h1, h2⟩ := h; exact ⟨x, hl.on _ _ h1, h2⟩
theorem dferK_some {c : Call} {o : Oper} {env : T Value} {k : T Value → DI → Option ρ} (hd : ∀ t, o.dst = some t → t < n) (ho : o.op = .defer c) (h : dferK c r o env k = some res) : ∃ env' d, k env' d = some res ∧ r = none ∧
    ∀ (m : Ren) (a : Act) (w : World) (q : Exit → Act → World → Prop) (l : List Oper), EnvR m env n a.tmps → (∀ a', EnvR m env' n a'.tmps → (∀ D, DefR m D a.defers → DefR m (d :: D) a'.defers) → wpListIn (fz none) 0 P ops.toArray q l a' w) → wpListIn (fz none) 0 P ops.toArray q (o :: l) a w := by
  unfold dferK at h
  split at h
  · rename_i fo ts
    split at h
    · rename_i hg
      obtain ⟨fv, h1, h2⟩ := evK_some h
      clear h
      split at h2
      · rename_i g cs
        obtain ⟨env', ⟨hsb, h3⟩, h4⟩ := dstK_some (n := n) h2 hd
        refine ⟨env', _, h4, rfl, fun m a w q l he hk => ?_⟩
        obtain ⟨u, h5, h6⟩ := h1 m n a he
        simp only [tr, trF, trL] at h5
        cases hx : trL m cs with
        | none => rw [hx] at h5; cases h5
        | some xs =>
          rw [hx] at h5
          simp only [Option.some.injEq] at h5
          subst h5
          have hrun : (execOp a.eval o).run P w = .ok (.defer (dCall g xs)) w := by
            unfold execOp
            rw [ho]
            simp [resolve, h6, Deferred.ofValue, dCall]
          unfold wpListIn
          rw [if_pos (by simp [Region.wanted, hg])]
          unfold Oper.wpIn
          refine ⟨fun _ _ => trivial, ?_⟩
          rw [show (fz none).round = none from rfl, Oper.semAt_none, hrun, Oper.uponIn_defer]
          refine hk _ ?_ fun D hD => ?_
          · exact h3 m { a with defers := dCall g xs :: a.defers } undef he (tr_undef m)
          · rw [put_defers]
            exact ⟨xs, _, hx, rfl, hD⟩
      · cases h2
    · cases h
  · cases h
theorem runL_some (hc : CfOK P cf) (hcv : CvSound P cv) : ∀ {l : List Oper} {env : T Value} {D : List DI} {H LS : AHeap} {nx : Nat} {k : T Value → List DI → AHeap → AHeap → Nat → Option ρ}, (∀ o ∈ l, ∀ t, o.dst = some t → t < n) → LOK LS → runL cf cv r ops l env D H LS nx k = some res →
    ∃ env' D' H' LS' nx', (nx ≤ nx' ∧ LOK LS') ∧ LsOK P ops l r n env D H LS nx env' D' H' LS' nx' ∧ k env' D' H' LS' nx' = some res
  | [], env, D, H, LS, nx, k, hd, hl, h => ⟨env, D, H, LS, nx, ⟨Nat.le_refl _, hl⟩, fun m a w w0 F rr q hr he hD hm hk => wpListIn_nil (hk m a w (Ren.ext_refl m _) he hD hm), h⟩
  | o :: l, env, D, H, LS, nx, k, hd, hl, h => by
    have h : stepL o.op cf cv r ops o (runL cf cv r ops l) env D H LS nx k = some res := h
    have hor : (∃ c, o.op = .defer c ∧ dferK c r o env (fun env d => runL cf cv r ops l env (d :: D) H LS nx k) = some res) ∨ opK cf cv ops o env H LS nx (fun env H LS nx => runL cf cv r ops l env D H LS nx k) = some res := by
      cases ho : o.op <;> rw [ho] at h <;> first | exact .inl ⟨_, rfl, h⟩ | exact .inr h
    rcases hor with ⟨c, ho, h⟩ | h
    · obtain ⟨env1, d, h1, hr0, h2⟩ := dferK_some (P := P) (n := n) (ops := ops) (hd o List.mem_cons_self) ho h
      obtain ⟨env', D', H', LS', nx', h3, h4, h5⟩ := runL_some hc hcv (fun o' ho' => hd o' (List.mem_cons_of_mem _ ho')) hl h1
      refine ⟨env', D', H', LS', nx', h3, fun m a w w0 F rr q hr he hD hm hk => ?_, h5⟩
      have hr' : rr = none := by rw [hr0] at hr; exact hr
      subst hr'
      exact h2 m a w q l he fun a' he' hD' => h4 m a' w w0 F none q hr he' (hD' D hD) hm hk
    · obtain ⟨env1, H1, LS1, nx1, h1, hl1, h2⟩ := opK_some hc hcv (hd o List.mem_cons_self) hl h
      obtain ⟨env', D', H', LS', nx', h3, h4, h5⟩ := runL_some hc hcv (fun o' ho' => hd o' (List.mem_cons_of_mem _ ho')) hl1 h2
      refine ⟨env', D', H', LS', nx', ⟨Nat.le_trans h1.1.1 h3.1, h3.2⟩, fun m a w w0 F rr q hr he hD hm hk => ?_, h5⟩
      refine h1.2 m a w w0 F rr q (wpListIn (fz rr) 0 P ops.toArray q l) he hm fun m1 x w1 g1 g2 g3 => ?_
      have hle := g1.le hm.1
      exact h4 m1 _ w1 w0 F rr q (hr.ext hle) g2 (by rw [put_defers]; exact hD.mono hle) g3 fun m' a' w' k1 k2 k3 k4 => hk m' a' w' (g1.trans k1 h1.1.1) k2 k3 k4

/-! ### regions -/
theorem chkDst_some {ops : List Oper} (h : chkDst n ops = true) : ∀ o ∈ ops, ∀ t, o.dst = some t → t < n := fun o ho t ht => by
  have := (List.all_eq_true.1 h) o ho
  rw [ht] at this
  simpa using this
theorem closed_none (md : Region.Mode) (ops : Array Oper) (k : Nat) : Closed md ops (Array.replicate k false) := fun j oj hj hl => by
  simp [Array.getD] at hl
theorem regK_some (hp : PgOK P pg) (hcv : CvSound P (callV pg ih)) {draw : Bool} {id : Nat} {L : T (List It)} {env : T Value} {D : List DI} {H LS : AHeap} {nx : Nat} {k : AX → T Value → List DI → AHeap → AHeap → Nat → Option ρ}
    (hck : chk L n (.region id ops.toArray draw) = true) (hl : LOK LS) (h : regK draw id ops pg ih L r env D H LS nx k = some res) :
    ∃ x env' D' H' LS' nx', (nx ≤ nx' ∧ LOK LS') ∧ ExOK P f r n (.region id ops.toArray draw) env D H LS nx x env' D' H' LS' nx' ∧ k x env' D' H' LS' nx' = some res := by
  simp only [chk, Bool.and_eq_true] at hck
  obtain ⟨hd, hck⟩ := hck
  have hd := chkDst_some (ops := ops) (by simpa using hd)
  cases draw with
  | false =>
    obtain ⟨env', D', H', LS', nx', h1, h2, h3⟩ := runL_some hp.cf hcv hd hl (show runL pg.cf (callV pg ih) r ops ops env D H LS nx (fun env D H LS nx => k .nrm env D H LS nx) = some res from h)
    refine ⟨.nrm, env', D', H', LS', nx', h1, fun m a w w0 F rr q hr hq he hD hm hk => ?_, h3⟩
    exact wpIn_region_lit (h2 m a w w0 F rr q hr he hD hm hk)
  | true =>
    obtain ⟨its, h1, h2⟩ := getK_some (show getK L id (fun its => drK pg.cf (callV pg ih) ops its [] [] env H LS nx fun env H LS nx => k .nrm env D H LS nx) = some res from h)
    rw [h1] at hck
    simp only [chkDraw, Bool.and_eq_true] at hck
    obtain ⟨⟨⟨h3, h4⟩, h5⟩, h6⟩ := hck
    have h5 := Nat.eq_of_beq_eq_true h5
    have h6 : chkIts ops.toArray (Array.replicate ops.length false) [] its = true := by simpa using h6
    have h3 : noDefer ops = true := by simpa using h3
    have h4 : Region.noSelect ops.toArray = true := by simpa using h4
    have hdst : ∀ (j : Nat) (o : Oper), ops[j]? = some o → ∀ t, o.dst = some t → t < n := fun j o ho => hd o (List.mem_of_getElem? ho)
    obtain ⟨env', H', LS', nx', ⟨h7, h8, h9⟩, h10⟩ := dr_some hp.cf hcv hdst h3 h4 its (Array.replicate ops.length false) [] [] env H LS nx _ res h6 ⟨by simp, by simp, fun p hp => (by cases hp)⟩ hl h2
    refine ⟨.nrm, env', D, H', LS', nx', ⟨h7, h8⟩, fun m a w w0 F rr q hr hq he hD hm hk => ?_, h9⟩
    refine wpIn_region_any hp.mix ?_
    have h11 := h10 m a { w with drawn := w.drawn + 1 } w0 F [] [] (steps its) rr q hq ⟨he, hm.1, ?_, fun p hp => (by cases hp), by simp, fun i hi => (by cases hi), rfl⟩ (closed_none _ _ _) (by simp) fun m' a' w' g1 g2 g3 g4 => ?_
    · have h12 := wpAny_of_L _ _ _ _ h11
      have h5 : steps its = ops.length := by simpa using h5
      rw [h5] at h12
      simpa [withB] using h12
    · exact (show Sat w0 _ ((kH, HEAP H m) :: (kH, HEAP LS m) :: F) from hm.2.draw (w.drawn + 1))
    · exact hk m' a' w' ⟨fun j hj => g1.2 j hj (by simp), g1.1.sy⟩ g2 (by rw [g3]; exact hD.mono g1.1) g4
end
end Go.Gsl

namespace Go.Gsl
set_option linter.unusedVariables false
section
variable {ρ : Type} {P : Program} {pg : Pg ρ} {ih : ExT ρ} {f n : Nat} {res : ρ} {r : Option Nat}
theorem Calm'.then {q : Exit → Act → World → Prop} {K : Act → World → Prop} (h : Calm' q) : Calm' (Exit.then K q) := fun c a d v w hq => h c a d v w hq
theorem Calm'.block {q : Exit → Act → World → Prop} {id : Nat} (h : Calm' q) : Calm' (Exit.inBlock id q) := fun c a d v w hq => h c a d v w hq

/-! ### loops over functions -/
def PendQ (P : Program) (rr : Option Nat) (pe : Option Code) (q : Exit → Act → World → Prop) (a : Act) (w : World) : Prop := match pe with
    | none => q .normal a w
    | some c => c.wpIn (fz rr) 0 P q a w
theorem pendK_some {pe : Option Code} {k : AX → Option ρ} (h : pendK pe k = some res) : ∃ x, k x = some res ∧ ∀ (rr : Option Nat) (q : Exit → Act → World → Prop) (a : Act) (w : World), q x.x a w → PendQ P rr pe q a w := by
  unfold pendK at h
  split at h
  · exact ⟨_, h, fun rr q a w hq => hq⟩
  · exact ⟨_, h, fun rr q a w hq => wpIn_ret hq⟩
  · exact ⟨_, h, fun rr q a w hq => wpIn_exit hq⟩
  · cases h
theorem notBusy {st : LoopState} (h : (!isBusy st) = true) : st ≠ .busy := fun e => by subst e; cases h
theorem rngK_some (hp : PgOK P pg) (hih : ExS P f ih) {L : T (List It)} {g : Operand} {ps : Array Tmp} {as bd : Code} {env : T Value} {D : List DI} {H LS : AHeap} {nx : Nat} {k : AX → T Value → List DI → AHeap → AHeap → Nat → Option ρ}
    (hck : chk L n (.rangeFunc g ps as bd) = true) (hl : LOK LS) (h : rngK pg ih L n r g ps.toList as bd env D H LS nx k = some res) :
    ∃ x env' D' H' LS' nx', (nx ≤ nx' ∧ LOK LS') ∧ ExOK P f r n (.rangeFunc g ps as bd) env D H LS nx x env' D' H' LS' nx' ∧ k x env' D' H' LS' nx' = some res := by
  simp only [chk, Bool.and_eq_true] at hck
  obtain ⟨⟨hps, has⟩, hbd⟩ := hck
  have hps : ∀ p ∈ ps.toList, p < n := fun p hp => by simpa using (List.all_eq_true.1 hps) p hp
  obtain ⟨gv, h1, h2⟩ := evK_some h
  clear h
  split at h2
  · rename_i g0 fs cs
    obtain ⟨fk, h3, h4⟩ := getK_some h2
    clear h2
    split at h4
    · rename_i b
      have hb := hp.body g0 b h3
      have hres : ∀ (m : Ren) (a : Act), EnvR m env n a.tmps → ∃ fx cx, trL m fs = some fx ∧ trL m cs = some cx ∧ ∀ (l : Nat) (w : World), (resolve a.eval (rangeCall g l) 0).run P w = .ok { target := .fn (.func g0) cx.toArray, args := fx.toArray ++ #[.func (.yield l) #[] #[]] } w ∧
          (invoke (.fn (.func g0) cx.toArray) (fx.toArray ++ #[.func (.yield l) #[] #[]])).run P w = .ok (.enter g0 (fx ++ (.func (.yield l) #[] #[] :: cx)).toArray) w := fun m a he => by
        obtain ⟨u, h5, h6⟩ := h1 m n a he
        simp only [tr, trF] at h5
        cases hx : trL m fs with
        | none => rw [hx] at h5; cases h5
        | some fx =>
          cases hy : trL m cs with
          | none => rw [hx, hy] at h5; cases h5
          | some cx =>
            rw [hx, hy] at h5
            simp only [Option.some.injEq] at h5
            subst h5
            refine ⟨fx, cx, rfl, rfl, fun l w => ⟨by simp only [resolve, h6]; simp [Deferred.ofValue, Act.eval], ?_⟩⟩
            simp only [invoke]
            rw [hb.call]
            simp
      cases r with
      | none =>
        obtain ⟨LS1, hg1, h5⟩ := T.put_spec _ _ _ _ _ h4
        clear h4
        obtain ⟨LS2, hg2, h6⟩ := T.put_spec _ _ _ _ _ h5
        clear h5
        have hl2 : LOK LS2 := (hl.dfr hg1).put has hbd hps hg2
        obtain ⟨v, H1, LS3, nx1, ⟨hn, h7⟩, hl3, h8⟩ := bodyK_some hp hih hb hl2 h6
        clear h6
        obtain ⟨o, h9, h10⟩ := getK_some h8
        clear h8
        obtain ⟨e3, n3, ps3, as3, bd3, L3, st, pe, db3, rfl, h11⟩ := loopK_some h10
        clear h10
        obtain ⟨h12, h13⟩ := ckK_some h11
        clear h11
        obtain ⟨LS4, hg4, h14⟩ := T.put_spec _ _ _ _ _ h13
        clear h13
        obtain ⟨x, h15, hpend⟩ := pendK_some (P := P) h14
        clear h14
        refine ⟨x, env, _, H1, LS4, nx1, ⟨by omega, hl3.cut hg4⟩, fun m a w w0 F rr q hr hq he hD hm hk => ?_, h15⟩
        have hr : rr = none := hr
        subst hr
        refine wpIn_rangeFunc fun fn _ => ?_
        obtain ⟨fx, cx, hfx, hcx, hrs⟩ := hres m a he
        have m1 := hm.lsNew hg1 (show ObjR m 0 .dfr (.deferred (some [])) from rfl)
        have hle1 : m.le (m.upd nx (w.heap.size, 0)) := Ren.le_upd (hm.1 nx (Nat.le_refl _))
        have hnx1 : (m.upd nx (w.heap.size, 0)) nx = some (w.heap.size, 0) := by simp [Ren.upd_ap]
        have m2 := m1.lsNew hg2 (s := 0) (r' := .loop { state := .ready, pending := none, fn := fn, tmps := a.tmps, params := ps, assign := as, body := bd, defers := w.heap.size }) ⟨fn, a.tmps, (w.heap.size, 0), hnx1, he.mono hle1, by simp⟩
        have hsz : (w.heap.push (.deferred (some []))).size = w.heap.size + 1 := by simp
        rw [hsz] at m2
        refine ⟨_, _, _, _, _, g0, _, _, run_enterLoop_outer _ _ _ _ _, (hrs _ _).1, fun _ _ => trivial, (hrs _ _).2, fun h => by simp [fz, Fence.wide] at h, ?_⟩
        refine callsIn_fz.2 (Calls.mono (h7 _ _ w0 F (fx ++ (.func (.yield (w.heap.size + 1)) #[] #[] :: cx)) (fun x w' => rangePost (fz none) 0 P (w.heap.size + 1) q { a with defers := [{ target := .collected w.heap.size, args := #[] }] ++ a.defers } (.returned x) w') ?_ m2 ?_) ?_)
        · have hle2 := m1.1
          have hup : (m.upd nx (w.heap.size, 0)).le ((m.upd nx (w.heap.size, 0)).upd (nx + 1) (w.heap.size + 1, 0)) := Ren.le_upd (m1.1 (nx + 1) (Nat.le_refl _))
          have hlem := Ren.le_trans hle1 hup
          rw [somes_eq, somes_eq, List.append_nil]
          exact (ArgR.of_tr (trL_mono hlem _ _ hfx)).app ⟨_, _, rfl, fun v hv => by cases hv; simp [tr, trF, trL, Ren.upd_ap], ArgR.of_tr (trL_mono hlem _ _ hcx)⟩
        · intro m3 u w3 g1 g2 g3
          obtain ⟨b', s, rr, g4, g5, g6⟩ := g3.ls h9
          have g7 : m3 (nx + 1) = some (w.heap.size + 1, 0) := by rw [g1.on (nx + 1) (by omega)]; simp [Ren.upd_ap]
          rw [g7] at g4; cases g4
          obtain ⟨fn3, tmps3, dx3, g8, g9, rfl⟩ := g5
          refine ⟨_, _, run_endLoop g6 (by simpa using notBusy h12), ?_⟩
          have hext : m.ext nx m3 := ⟨fun j hj => by rw [g1.on j (by omega), Ren.upd_ap, Ren.upd_ap, if_neg (by omega), if_neg (by omega)], g1.sy⟩
          refine hpend none q _ _ (hk m3 _ _ hext (he.mono (hext.le hm.1)) ⟨(w.heap.size, 0), _, ?_, rfl, hD.mono (hext.le hm.1)⟩ (g3.lsCut h9 g7 hg4))
          rw [g1.on nx (by omega)]; simp [Ren.upd_ap]
        · rintro e w' ⟨x, rfl, h⟩
          exact h
      | some l0 =>
        obtain ⟨o0, h5, h6⟩ := getK_some h4
        clear h4
        obtain ⟨e0, n0, ps0, as0, bd0, L0, st0, pe0, db, rfl, h7⟩ := loopK_some h6
        clear h6
        obtain ⟨LS1, hg1, h8⟩ := T.put_spec _ _ _ _ _ h7
        clear h7
        have hl1 : LOK LS1 := hl.put has hbd hps hg1
        obtain ⟨v, H1, LS3, nx1, ⟨hn, h9⟩, hl3, h10⟩ := bodyK_some hp hih hb hl1 h8
        clear h8
        obtain ⟨o, h11, h12⟩ := getK_some h10
        clear h10
        obtain ⟨e3, n3, ps3, as3, bd3, L3, st, pe, db3, rfl, h13⟩ := loopK_some h12
        clear h12
        obtain ⟨h14, h15⟩ := ckK_some h13
        clear h13
        obtain ⟨LS4, hg4, h16⟩ := T.put_spec _ _ _ _ _ h15
        clear h15
        obtain ⟨x, h17, hpend⟩ := pendK_some (P := P) h16
        clear h16
        refine ⟨x, env, D, H1, LS4, nx1, ⟨by omega, hl3.cut hg4⟩, fun m a w w0 F rr q hr hq he hD hm hk => ?_, h17⟩
        obtain ⟨bx, hm0, rfl⟩ := hr
        obtain ⟨b0, s0, r0, k1, k2, k3⟩ := hm.ls h5
        rw [hm0] at k1; cases k1
        obtain ⟨fn0, tmps0, dx0, k4, k5, rfl⟩ := k2
        refine wpIn_rangeFunc fun fn _ => ?_
        obtain ⟨fx, cx, hfx, hcx, hrs⟩ := hres m a he
        have hle1 : m.le (m.upd nx (w.heap.size, 0)) := Ren.le_upd (hm.1 nx (Nat.le_refl _))
        have m1 := hm.lsNew hg1 (s := 0) (r' := .loop { state := .ready, pending := none, fn := fn, tmps := a.tmps, params := ps, assign := as, body := bd, defers := dx0.1 }) ⟨fn, a.tmps, dx0, k4, he, by simp⟩
        refine ⟨_, _, _, _, _, g0, _, _, run_enterLoop_inner k3 _ _ _ _ _, (hrs _ _).1, fun _ _ => trivial, (hrs _ _).2, fun h => by simp [fz, Fence.wide] at h, ?_⟩
        refine callsIn_fz.2 (Calls.mono (h9 _ _ w0 F (fx ++ (.func (.yield w.heap.size) #[] #[] :: cx)) (fun x w' => rangePost (fz (some b0)) 0 P w.heap.size q { a with defers := [] ++ a.defers } (.returned x) w') ?_ m1 ?_) ?_)
        · rw [somes_eq, somes_eq, List.append_nil]
          exact (ArgR.of_tr (trL_mono hle1 _ _ hfx)).app ⟨_, _, rfl, fun v hv => by cases hv; simp [tr, trF, trL, Ren.upd_ap], ArgR.of_tr (trL_mono hle1 _ _ hcx)⟩
        · intro m3 u w3 g1 g2 g3
          obtain ⟨b', s, rr, g4, g5, g6⟩ := g3.ls h11
          have g7 : m3 nx = some (w.heap.size, 0) := by rw [g1.on nx (by omega)]; simp [Ren.upd_ap]
          rw [g7] at g4; cases g4
          obtain ⟨fn3, tmps3, dx3, g8, g9, rfl⟩ := g5
          refine ⟨_, _, run_endLoop g6 (by simpa using notBusy h14), ?_⟩
          have hext : m.ext nx m3 := ⟨fun j hj => by rw [g1.on j (by omega), Ren.upd_ap, if_neg (by omega)], g1.sy⟩
          exact hpend (some b0) q _ _ (hk m3 _ _ hext (he.mono (hext.le hm.1)) (hD.mono (hext.le hm.1)) (g3.lsCut h11 g7 hg4))
        · rintro e w' ⟨x, rfl, h⟩
          exact h
    · cases h4
  · cases h2

/-! ### code -/
theorem seqK_some {x : AX} {k1 : Option ρ} {k : AX → Option ρ} (h : seqK x k1 k = some res) : (x = .nrm ∧ k1 = some res) ∨ (k x = some res ∧ ∀ (K : Act → World → Prop) (q : Exit → Act → World → Prop) (a : Act) (w : World), q x.x a w → Exit.then K q x.x a w) := by
  cases x with
  | nrm => exact .inl ⟨rfl, h⟩
  | ret => exact .inr ⟨h, fun K q a w hq => hq⟩
  | ex id => exact .inr ⟨h, fun K q a w hq => hq⟩
theorem blkK_some {x : AX} {id : Nat} {k : AX → Option ρ} (h : blkK id x k = some res) : ∃ x', k x' = some res ∧ ∀ (q : Exit → Act → World → Prop) (a : Act) (w : World), q x'.x a w → Exit.inBlock id q x.x a w := by
  cases x with
  | nrm => exact ⟨_, h, fun q a w hq => hq⟩
  | ret => exact ⟨_, h, fun q a w hq => hq⟩
  | ex j =>
    have h : Bool.rec (motive := fun _ => Option ρ) (k (.ex j)) (k .nrm) (Nat.beq j id) = some res := h
    cases hb : Nat.beq j id with
    | true =>
      rw [hb] at h
      refine ⟨_, h, fun q a w hq => ?_⟩
      show Exit.inBlock id q (.exit j) a w
      simp only [Exit.inBlock, Nat.eq_of_beq_eq_true hb, if_true]
      exact hq
    | false =>
      rw [hb] at h
      refine ⟨_, h, fun q a w hq => ?_⟩
      show Exit.inBlock id q (.exit j) a w
      simp only [Exit.inBlock, Nat.ne_of_beq_eq_false hb, if_false]
      exact hq
theorem exF_some (hp : PgOK P pg) (hih : ExS P f ih) : ExS P (f + 1) (fun L n r c env D H LS nx k => exF c pg ih L n r env D H LS nx k) := by
  intro L n r c env D H LS nx k res hck hl h
  have hcv := callV_sound (P := P) hp hih
  cases c with
  | skip => exact ⟨.nrm, _, _, _, _, _, ⟨Nat.le_refl _, hl⟩, fun m a w w0 F rr q hr hq he hD hm hk => wpIn_skip (hk m a w (Ren.ext_refl m _) he hD hm), h⟩
  | ret => exact ⟨.ret, _, _, _, _, _, ⟨Nat.le_refl _, hl⟩, fun m a w w0 F rr q hr hq he hD hm hk => wpIn_ret (hk m a w (Ren.ext_refl m _) he hD hm), h⟩
  | exit id => exact ⟨.ex id, _, _, _, _, _, ⟨Nat.le_refl _, hl⟩, fun m a w w0 F rr q hr hq he hD hm hk => wpIn_exit (hk m a w (Ren.ext_refl m _) he hD hm), h⟩
  | region id ops draw =>
    obtain ⟨ops⟩ := ops
    exact regK_some (f := f + 1) hp hcv hck hl h
  | seq c1 c2 =>
    simp only [chk, Bool.and_eq_true] at hck
    obtain ⟨x1, env1, D1, H1, LS1, nx1, ⟨hn1, hl1⟩, h1, h2⟩ := hih _ _ _ _ _ _ _ _ _ _ _ hck.1 hl (show ih L n r c1 env D H LS nx (fun x env D H LS nx => seqK x (ih L n r c2 env D H LS nx k) fun x => k x env D H LS nx) = some res from h)
    rcases seqK_some h2 with ⟨rfl, h3⟩ | ⟨h3, h4⟩
    · obtain ⟨x2, env2, D2, H2, LS2, nx2, ⟨hn2, hl2⟩, h5, h6⟩ := hih _ _ _ _ _ _ _ _ _ _ _ hck.2 hl1 h3
      refine ⟨x2, env2, D2, H2, LS2, nx2, ⟨by omega, hl2⟩, fun m a w w0 F rr q hr hq he hD hm hk => wpIn_seq (h1 m a w w0 F rr _ hr hq.then he hD hm fun m1 a1 w1 g1 g2 g3 g4 => ?_).wp, h6⟩
      exact (h5 m1 a1 w1 w0 F rr q (hr.ext (g1.le hm.1)) hq g2 g3 g4 fun m2 a2 w2 k1 k2 k3 k4 => hk m2 a2 w2 (g1.trans k1 hn1) k2 k3 k4).wp
    · exact ⟨x1, env1, D1, H1, LS1, nx1, ⟨hn1, hl1⟩, fun m a w w0 F rr q hr hq he hD hm hk => wpIn_seq (h1 m a w w0 F rr _ hr hq.then he hD hm fun m1 a1 w1 g1 g2 g3 g4 => h4 _ q a1 w1 (hk m1 a1 w1 g1 g2 g3 g4)).wp, h3⟩
  | cond c0 c1 c2 =>
    simp only [chk, Bool.and_eq_true] at hck
    obtain ⟨v, h1, h2⟩ := evK_some (show evK c0 env (fun v => boolK v fun t => Bool.rec (motive := fun _ => Option ρ) (ih L n r c2 env D H LS nx k) (ih L n r c1 env D H LS nx k) t) = some res from h)
    obtain ⟨b, rfl, h3⟩ := boolK_some h2
    have hev : ∀ (m : Ren) (a : Act), EnvR m env n a.tmps → a.eval c0 = .bool b := fun m a he => by
      obtain ⟨u, h4, h5⟩ := h1 m n a he
      simp only [tr, Option.some.injEq] at h4; subst h4
      exact h5
    cases b with
    | false =>
      obtain ⟨x1, env1, D1, H1, LS1, nx1, hn1, h4, h5⟩ := hih _ _ _ _ _ _ _ _ _ _ _ hck.2 hl h3
      exact ⟨x1, env1, D1, H1, LS1, nx1, hn1, fun m a w w0 F rr q hr hq he hD hm hk => wpIn_cond_false (hev m a he) (h4 m a w w0 F rr q hr hq he hD hm hk).wp, h5⟩
    | true =>
      obtain ⟨x1, env1, D1, H1, LS1, nx1, hn1, h4, h5⟩ := hih _ _ _ _ _ _ _ _ _ _ _ hck.1 hl h3
      exact ⟨x1, env1, D1, H1, LS1, nx1, hn1, fun m a w w0 F rr q hr hq he hD hm hk => wpIn_cond_true (hev m a he) (h4 m a w w0 F rr q hr hq he hD hm hk).wp, h5⟩
  | block id c1 =>
    obtain ⟨x1, env1, D1, H1, LS1, nx1, hn1, h1, h2⟩ := hih _ _ _ _ _ _ _ _ _ _ _ (show chk L n c1 = true from hck) hl (show ih L n r c1 env D H LS nx (fun x env D H LS nx => blkK id x fun x => k x env D H LS nx) = some res from h)
    obtain ⟨x', h3, h4⟩ := blkK_some h2
    exact ⟨x', env1, D1, H1, LS1, nx1, hn1, fun m a w w0 F rr q hr hq he hD hm hk => wpIn_block (h1 m a w w0 F rr _ hr hq.block he hD hm fun m1 a1 w1 g1 g2 g3 g4 => h4 q a1 w1 (hk m1 a1 w1 g1 g2 g3 g4)).wp, h3⟩
  | loop c1 =>
    have hck1 : chk L n c1 = true := hck
    obtain ⟨x1, env1, D1, H1, LS1, nx1, ⟨hn1, hl1⟩, h1, h2⟩ := hih _ _ _ _ _ _ _ _ _ _ _ hck1 hl (show ih L n r c1 env D H LS nx (fun x env D H LS nx => seqK x (ih L n r (.loop c1) env D H LS nx k) fun x => k x env D H LS nx) = some res from h)
    rcases seqK_some h2 with ⟨rfl, h3⟩ | ⟨h3, h4⟩
    · obtain ⟨x2, env2, D2, H2, LS2, nx2, ⟨hn2, hl2⟩, h5, h6⟩ := hih _ _ _ _ _ _ _ _ _ _ _ hck hl1 h3
      refine ⟨x2, env2, D2, H2, LS2, nx2, ⟨by omega, hl2⟩, fun m a w w0 F rr q hr hq he hD hm hk => ?_, h6⟩
      show Code.roundsIn (fz rr) 0 P c1 q (f + 1) a w
      rw [roundsIn_succ]
      refine (h1 m a w w0 F rr _ hr hq.then he hD hm fun m1 a1 w1 g1 g2 g3 g4 => ?_).wp
      exact h5 m1 a1 w1 w0 F rr q (hr.ext (g1.le hm.1)) hq g2 g3 g4 fun m2 a2 w2 k1 k2 k3 k4 => hk m2 a2 w2 (g1.trans k1 hn1) k2 k3 k4
    · refine ⟨x1, env1, D1, H1, LS1, nx1, ⟨hn1, hl1⟩, fun m a w w0 F rr q hr hq he hD hm hk => ?_, h3⟩
      show Code.roundsIn (fz rr) 0 P c1 q (f + 1) a w
      rw [roundsIn_succ]
      exact (h1 m a w w0 F rr _ hr hq.then he hD hm fun m1 a1 w1 g1 g2 g3 g4 => h4 _ q a1 w1 (hk m1 a1 w1 g1 g2 g3 g4)).wp
  | rangeFunc g ps as bd =>
    obtain ⟨x1, env1, D1, H1, LS1, nx1, hn1, h1, h2⟩ := rngK_some hp hih hck hl h
    exact ⟨x1, env1, D1, H1, LS1, nx1, hn1, fun m a w w0 F rr q hr hq he hD hm hk => h1 m a w w0 F rr q hr hq he hD hm hk, h2⟩
  | _ => cases h
theorem ex_sound (hp : PgOK P pg) : ∀ fuel, ExS P fuel (ex pg fuel)
  | 0 => fun L n r c env D H LS nx k res _ _ h => by cases h
  | f + 1 => exF_some hp (ex_sound hp f)

/-! ### a function, from the outside -/
/-- the answer is a value in which no block is named -/
theorem runFn_sound (hp : PgOK P pg) {fuel : Nat} {g : FuncId} {b : FB} {vs : List (Option Value)} {H : AHeap} {nx : Nat} {k : Value → AHeap → Nat → Option ρ} (hb : pg.FT.get g = some (.body b)) (h : runFn pg fuel g vs H nx k = some res) :
    ∃ v H' nx', k v H' nx' = some res ∧ nx ≤ nx' ∧ ∀ (m : Ren) (w w0 : World) (F : List Res) (xs : List Value), ArgR m vs xs → MB m nx → Sat w0 w ((kH, HEAP H m) :: F) →
      Calls P g xs.toArray w fun e w' => ∃ m' x, e = .returned x ∧ m.ext nx m' ∧ MB m' nx' ∧ tr m' v = some x ∧ Sat w0 w' ((kH, HEAP H' m') :: F) := by
  obtain ⟨fk, h1, h2⟩ := getK_some (show getK pg.FT g (fun fk => match fk with
    | .body b => bodyK pg (ex pg fuel) b vs H .lf nx fun v H _ nx => k v H nx
    | .ext e => extK e vs H fun v H => k v H nx
    | .prim => pg.prim g vs H nx fun v H nx => k v H nx) = some res from h)
  rw [hb] at h1; cases h1
  obtain ⟨v, H', LS', nx', ⟨hn, h3⟩, hl, h4⟩ := bodyK_some hp (ex_sound hp fuel) (hp.body g b hb) LOK.lf h2
  refine ⟨v, H', nx', h4, hn, fun m w w0 F xs ha hm hs => ?_⟩
  refine Calls.mono (h3 m w w0 F xs (fun x w' => ∃ m', m.ext nx m' ∧ MB m' nx' ∧ tr m' v = some x ∧ Sat w0 w' ((kH, HEAP H' m') :: F)) ha ⟨hm, hs.ent (Ent.cons _ (heap_none m))⟩ fun m' x w' g1 g2 g3 => ⟨m', g1, g3.1, g2, ?_⟩) ?_
  · exact g3.2.ent (Ent.cons _ (Ent.drop _ _))
  · rintro e w' ⟨x, rfl, m', g1, g2, g3, g4⟩
    exact ⟨m', x, rfl, g1, g2, g3, g4⟩
/-- what is handed in by values that the run does not look at: 's' -/
def Ren.nil (s : Nat → Value) (h : ∀ k, (s k).oneCell' = true) : Ren := ⟨fun _ => none, s, h⟩
/-- a function that is handed nothing of the memory's, and answers nothing of it: its contract -/
theorem spec_run (hp : PgOK P pg) {fuel : Nat} {g : FuncId} {b : FB} {vs xs : List Value} {v : Value} {s : Nat → Value} (hs : ∀ k, (s k).oneCell' = true) (hb : pg.FT.get g = some (.body b)) (hv : trL (Ren.nil s hs) vs = some xs) (hr : bare v = true)
    {k : Value → AHeap → Nat → Option ρ} (hk : ∀ v' H nx, k v' H nx = some res → v' = v) (h : runFn pg fuel g (vs.map some) .lf 0 k = some res) : Spec P g xs [] [] fun F u Rs' => u = v ∧ Rs' = F := by
  obtain ⟨v', H', nx', h1, _, h2⟩ := runFn_sound hp hb h
  have := hk _ _ _ h1
  subst this
  intro w0 F w hw
  refine Calls.mono (h2 (Ren.nil s hs) w w0 F xs (ArgR.of_tr hv) (fun _ _ => rfl) (hw.ent (heap_none _))) ?_
  rintro e w' ⟨m', x, rfl, _, _, h3, h4⟩
  rw [tr_bare m' _ hr] at h3; cases h3
  exact ⟨_, F, rfl, ⟨rfl, rfl⟩, h4.ent (Ent.drop _ _)⟩
end
end Go.Gsl

namespace Go.Gsl
set_option linter.unusedVariables false

/-! ### what holds of all that a tree has -/
def T.All {α : Type} (p : Nat → α → Prop) : T α → Nat → Nat → Prop
  | .lf, _, _ => True
  | .nd l v r, a, b => (∀ x, v = some x → p b x) ∧ T.All p l (2 * a) (a + b) ∧ T.All p r (2 * a) (2 * a + b)
theorem T.All.of {α : Type} {p : Nat → α → Prop} : ∀ {t : T α} {a b n : Nat} {x : α}, T.All p t a b → t.get n = some x → p (a * n + b) x
  | .lf, a, b, n, x, _, h => by rw [get_lf] at h; cases h
  | .nd l v r, a, b, n, x, ⟨h1, h2, h3⟩, h => by
    rw [get_nd] at h
    split at h
    · rename_i hn; subst hn; rw [Nat.mul_zero, Nat.zero_add]; exact h1 x h
    · split at h
      · rename_i hn hm
        have := h2.of h
        have e : 2 * a * (n / 2) + (a + b) = a * n + b := by
          have h4 : n = 2 * (n / 2) + 1 := by omega
          generalize n / 2 = q at h4
          subst h4
          rw [Nat.mul_add, Nat.mul_one, Nat.mul_comm 2 a, Nat.mul_assoc]; omega
        rw [e] at this; exact this
      · rename_i hn hm
        have := h3.of h
        have e : 2 * a * (n / 2 - 1) + (2 * a + b) = a * n + b := by
          have h4 : n = 2 * (n / 2 - 1) + 2 := by omega
          generalize n / 2 - 1 = q at h4
          subst h4
          rw [Nat.mul_add, Nat.mul_comm 2 a, Nat.mul_assoc]; omega
        rw [e] at this; exact this
theorem T.All.root {α : Type} {p : Nat → α → Prop} {t : T α} (h : T.All p t 1 0) {n : Nat} {x : α} (hx : t.get n = some x) : p n x := by
  have := h.of hx
  rwa [Nat.one_mul, Nat.add_zero] at this
theorem T.all_lf {α : Type} {p : Nat → α → Prop} {a b : Nat} : T.All p .lf a b := trivial
theorem T.all_nd {α : Type} {p : Nat → α → Prop} {l r : T α} {x : α} {a b : Nat} (hx : p b x) (hl : T.All p l (2 * a) (a + b)) (hr : T.All p r (2 * a) (2 * a + b)) : T.All p (.nd l (some x) r) a b := ⟨fun y h => by cases h; exact hx, hl, hr⟩
theorem T.all_no {α : Type} {p : Nat → α → Prop} {l r : T α} {a b : Nat} (hl : T.All p l (2 * a) (a + b)) (hr : T.All p r (2 * a) (2 * a + b)) : T.All p (.nd l none r) a b := ⟨fun y h => (by cases h), hl, hr⟩

/-! ### types -/
section
variable {P : Program}
def FldOK (P : Program) (x : Nat × Nat × Bool) (f : Field) : Prop := f.offset = x.1 ∧ (∀ w, (sizeOf f.type).run P w = .ok x.2.1 w) ∧ (∀ w, (isAgg f.type).run P w = .ok x.2.2 w)
def FldsOK (P : Program) : List (Nat × Nat × Bool) → List Field → Prop
  | [], fs => fs = []
  | x :: xs, fs => ∃ f fs', fs = f :: fs' ∧ FldOK P x f ∧ FldsOK P xs fs'
theorem FldsOK.nil : FldsOK P [] [] := rfl
theorem FldsOK.cons {o z : Nat} {b : Bool} {xs : List (Nat × Nat × Bool)} {f : Field} {fs : List Field} (h1 : f.offset = o) (h2 : ∀ w, (sizeOf f.type).run P w = .ok z w) (h3 : ∀ w, (isAgg f.type).run P w = .ok b w) (h : FldsOK P xs fs) : FldsOK P ((o, z, b) :: xs) (f :: fs) := ⟨f, fs, rfl, ⟨h1, h2, h3⟩, h⟩
theorem FldsOK.map : ∀ {xs : List (Nat × Nat × Bool)} {fs : List Field}, FldsOK P xs fs → ∀ w, (fs.mapM fun f => (do pure (f.offset, ← sizeOf f.type) : Sem (Nat × Nat))).run P w = .ok (xs.map fun x => (x.1, x.2.1)) w
  | [], fs, h, w => by cases h; rfl
  | x :: xs, fs, h, w => by
    obtain ⟨f, fs', rfl, ⟨h1, h2, h3⟩, h4⟩ := h
    rw [List.mapM_cons]
    simp only [Sem.run_bind, h2, Result.andThen_ok, Sem.run_pure, h4.map w, h1, List.map_cons]
theorem FldsOK.get : ∀ {xs : List (Nat × Nat × Bool)} {fs : List Field}, FldsOK P xs fs → ∀ (i : Nat) (x : Nat × Nat × Bool), xs[i]? = some x → ∃ f, fs[i]? = some f ∧ FldOK P x f
  | [], fs, h, i, x, hx => by simp at hx
  | y :: xs, fs, h, i, x, hx => by
    obtain ⟨f, fs', rfl, h1, h2⟩ := h
    cases i with
    | zero => simp at hx; subst hx; exact ⟨f, rfl, h1⟩
    | succ i => simp at hx; simpa using h2.get i x hx
theorem KdOK.st {xs : List (Nat × Nat × Bool)} {fs : List Field} (h : FldsOK P xs fs) : KdOK P (.st xs) (.struct fs.toArray) := by
  refine ⟨fs.toArray, rfl, fun w => ?_, fun i x hx => ?_⟩
  · rw [Array.mapM_eq_mapM_toList]
    simp only [map_eq_pure_bind, Sem.run_bind, h.map w, Result.andThen_ok, Sem.run_pure]
  · obtain ⟨f, h1, h2⟩ := h.get i x hx
    exact ⟨f, by simpa using h1, h2⟩
theorem XTok.mk' {t : TypeId} {x : XT} {d : TypeDesc} (hu : P.underlying t = some d) (hk : KdOK P x.kd d) (hs : ∀ w, (sizeOf t).run P w = .ok x.sz w) (hz : ∀ w, (zeroValue t).run P w = .ok x.zero w) (hb : bareL x.z = true) (hc : x.zero.cells = ⟨x.z⟩)
    (hl : x.z.length = x.sz) (ha : ∀ w, (isAgg t).run P w = .ok x.ag w) (hi : ((P.info? t).map fun i => (i.bytes, i.size, i.zero)) = some (x.byt, x.sz, some x.zero)) : XTok P t x := by
  refine ⟨⟨d, hu, hk⟩, hs, hz, ⟨hb, hc⟩, hl, ha, ?_⟩
  obtain ⟨i, h1, h2⟩ := Option.map_eq_some_iff.1 hi
  simp only [Prod.mk.injEq] at h2
  exact ⟨i, h1, h2.1, h2.2.1, h2.2.2⟩

/-! ### structs compared -/
def valA (ag : Bool) (xs : List Value) : Value := match ag with
  | true => .agg ⟨xs⟩
  | false => xs.head?.getD undef
/-- values of the type, by their cells -/
def EqV (P : Program) (t : TypeId) (ks : List XK) (ag : Bool) (k : Nat) : Prop := ∀ d, k ≤ d → ∀ xs ys b, RowEq ks xs ys b → ∀ w, (Op.equalIn d t (valA ag xs) (valA ag ys)).run P w = .ok b w
theorem RowEq.len : ∀ {ks : List XK} {xs ys : List Value} {b : Bool}, RowEq ks xs ys b → xs.length = ks.length ∧ ys.length = ks.length
  | [], xs, ys, b, ⟨h1, h2, _⟩ => by subst h1; subst h2; exact ⟨rfl, rfl⟩
  | kd :: ks, xs, ys, b, ⟨x, xs', y, ys', c, d, h1, h2, _, _, h4⟩ => by
    subst h1; subst h2
    obtain ⟨h5, h6⟩ := h4.len
    exact ⟨by simp [h5], by simp [h6]⟩
theorem RowEq.app : ∀ {ks ks2 : List XK} {xs ys : List Value} {b : Bool}, RowEq (ks ++ ks2) xs ys b → ∃ c d, b = (c && d) ∧ RowEq ks (xs.take ks.length) (ys.take ks.length) c ∧ RowEq ks2 (xs.drop ks.length) (ys.drop ks.length) d
  | [], ks2, xs, ys, b, h => ⟨true, b, by simp, ⟨by simp, by simp, rfl⟩, by simpa using h⟩
  | kd :: ks, ks2, xs, ys, b, ⟨x, xs', y, ys', c, d, h1, h2, h3, h4, h5⟩ => by
    subst h1; subst h2
    obtain ⟨c', d', h6, h7, h8⟩ := h5.app
    exact ⟨c && c', d', by rw [h3, h6]; cases c <;> simp, ⟨x, _, y, _, c, c', by simp, by simp, rfl, h4, h7⟩, by simpa using h8⟩
theorem EqV.int {t : TypeId} {kd : IntKind} (hu : P.underlying t = some (.int kd)) : EqV P t [.int kd] false 1 := by
  intro d hd xs ys b h w
  obtain ⟨x, xs', y, ys', c, e, rfl, rfl, rfl, h1, rfl, rfl, rfl⟩ := h
  rcases h1 with ⟨k, a, a', h2, rfl, rfl, rfl⟩ | ⟨a, a', h2, _⟩ | ⟨a, a', h2, _⟩
  · cases h2
    obtain ⟨d, rfl⟩ : ∃ e, d = e + 1 := ⟨d - 1, by omega⟩
    simp only [valA, List.head?_cons, Option.getD_some, run_equalIn_int w d t kd kd a a' hu, Bool.and_true]
    rfl
  · cases h2
  · cases h2
theorem EqV.bool {t : TypeId} (hu : P.underlying t = some .bool) : EqV P t [.bool] false 1 := by
  intro d hd xs ys b h w
  obtain ⟨x, xs', y, ys', c, e, rfl, rfl, rfl, h1, rfl, rfl, rfl⟩ := h
  rcases h1 with ⟨k, a, a', h2, _⟩ | ⟨a, a', h2, _⟩ | ⟨a, a', h2, rfl, rfl, rfl⟩
  · cases h2
  · cases h2
  · obtain ⟨d, rfl⟩ : ∃ e, d = e + 1 := ⟨d - 1, by omega⟩
    simp [valA, Op.equalIn, underlying, hu]
theorem EqV.str {t : TypeId} (hu : P.underlying t = some .string) : EqV P t [.str] false 1 := by
  intro d hd xs ys b h w
  obtain ⟨x, xs', y, ys', c, e, rfl, rfl, rfl, h1, rfl, rfl, rfl⟩ := h
  rcases h1 with ⟨k, a, a', h2, _⟩ | ⟨a, a', h2, rfl, rfl, rfl⟩ | ⟨a, a', h2, _⟩
  · cases h2
  · obtain ⟨d, rfl⟩ : ∃ e, d = e + 1 := ⟨d - 1, by omega⟩
    simp only [valA, List.head?_cons, Option.getD_some, Bool.and_true]
    rw [run_equalIn_string w d t _ _ hu, ba_list, ba_list]
    congr 1
    rw [Bool.eq_iff_iff]; simp
  · cases h2
theorem valA_part {ks : List XK} {ag : Bool} {xs : List Value} {off : Nat} (h0 : ag = true ∨ ks.length = 1) (l1 : ((xs.drop off).take ks.length).length = ks.length) :
    (match (motive := Bool → Prop) ag with | true => valA ag ((xs.drop off).take ks.length) = .agg ⟨(xs.drop off).take ks.length⟩ | false => xs[off]? = some (valA ag ((xs.drop off).take ks.length))) := by
  cases ag with
  | true => rfl
  | false =>
    rcases h0 with h0 | h0
    · cases h0
    · rw [h0] at l1 ⊢
      cases hx : xs.drop off with
      | nil => rw [hx] at l1; simp at l1
      | cons v l =>
        have : xs[off]? = some v := by have h9 := congrArg (fun l => l[0]?) hx; simpa using h9
        simp [this, valA]
/-- fields, from the cell 'off' on -/
def FldE (P : Program) (k : Nat) : List Field → List (List XK × Bool) → Nat → Prop
  | [], ps, _ => ps = []
  | f :: fs, ps, off => ∃ ks ag ps', ps = (ks, ag) :: ps' ∧ f.name ≠ "_" ∧ f.offset = off ∧ (∀ w, (sizeOf f.type).run P w = .ok ks.length w) ∧ (∀ w, (isAgg f.type).run P w = .ok ag w) ∧ (ag = true ∨ ks.length = 1) ∧ EqV P f.type ks ag k ∧ FldE P k fs ps' (off + ks.length)
theorem FldE.run : ∀ {k : Nat} {fs : List Field} {ps : List (List XK × Bool)} {off d : Nat} {xs ys : List Value} {b : Bool}, FldE P k fs ps off → k ≤ d → RowEq (ps.map (·.1)).flatten (xs.drop off) (ys.drop off) b → ∀ w, (Op.eqFields d ⟨xs⟩ ⟨ys⟩ fs).run P w = .ok b w
  | k, [], ps, off, d, xs, ys, b, h, hd, hr, w => by
    have h : ps = [] := h
    subst h
    obtain ⟨_, _, rfl⟩ := hr
    exact eqF_nil w d _ _
  | k, f :: fs, ps, off, d, xs, ys, b, h, hd, hr, w => by
    obtain ⟨ks, ag, ps', rfl, h1, h2, h3, h4, h0, h5, h6⟩ := h
    simp only [List.map_cons, List.flatten_cons] at hr
    obtain ⟨c, e, rfl, h7, h8⟩ := hr.app
    rw [List.drop_drop, List.drop_drop] at h8
    obtain ⟨l1, l2⟩ := h7.len
    refine eqF_step w h1 (a := valA ag ((xs.drop off).take ks.length)) (b := valA ag ((ys.drop off).take ks.length)) ?_ ?_ (h5 d hd _ _ _ h7 w) (h6.run hd h8 w)
    · refine run_part h3 h4 ?_ w
      rw [h2]
      exact valA_part h0 l1
    · refine run_part h3 h4 ?_ w
      rw [h2]
      exact valA_part h0 l2
/-- a struct, by its fields -/
theorem EqV.st {t : TypeId} {fs : Array Field} {ps : List (List XK × Bool)} {k : Nat} (hu : P.underlying t = some (.struct fs)) (hp : P.stoodInHeld t = false) (h : FldE P k fs.toList ps 0) : EqV P t (ps.map (·.1)).flatten true (k + 1) := by
  intro d hd xs ys b hr w
  obtain ⟨d, rfl⟩ : ∃ e, d = e + 1 := ⟨d - 1, by omega⟩
  have h1 := fieldsOf_und hu
  show (Op.equalIn (d + 1) t (.agg ⟨xs⟩) (.agg ⟨ys⟩)).run P w = _
  rw [run_equalIn_struct (w := w) d t ⟨xs⟩ ⟨ys⟩ (by rw [h1]; exact hu) hp, h1]
  exact h.run (off := 0) (by omega) (by simpa using hr) w
theorem EqOK.of {t : TypeId} {ks : List XK} {k : Nat} (h : EqV P t ks true k) (hk : Nat.ble k 10000 = true) (hg : P.eqGuardType P.depth t = false) : EqOK P t ks :=
  ⟨fun xs ys b hr w => h 10000 (Nat.le_of_ble_eq_true hk) xs ys b hr w, hg⟩

/-! ### a deferred function that begins with a recover -/
def PostV (P : Program) (w0 : World) (Rs : List Res) : Cont := ⟨none, [], fun x a w => (x = .normal ∨ x = .ret) ∧ a.defers = [] ∧ Sat w0 w Rs⟩
/-- there is nothing to recover -/
theorem dfn_rec {f : FuncId} {fn : Func} {id d1 d2 n m : Nat} {ty : TypeId} {p1 p2 : String} {ts : Array TypeId} {aft : Array Edge} {y : Code}
    (hf : P.funcs[f]? = some fn) (hn : fn.ntmps = n) (hl : Nat.ble m n = true) (hr : fn.results = #[]) (hc : ∀ args w, (callFunc f args).run P w = .ok (.enter f args) w)
    (hb : fn.body = some (.seq (.region id #[{ dst := some d1, op := .call { callee := .builtin .recover, args := #[], argTypes := ts }, type := ty, pos := p1, after := #[], guard := none }, { dst := some d2, op := .assign (.tmp d1), type := ty, pos := p2, after := aft, guard := none }] false) y))
    (hd1 : d1 < n) (h : ∀ w0 Rs (vs : List Value), vs.length = m → SC P (PostV P w0 Rs) n w0 y ((d2, .nilIface) :: (d1, .nilIface) :: argEnv 0 vs) Rs) : DfnOK P f m := by
  refine fun vs hvs => ⟨fun w => hc _ w, fun w0 w Rs hw => ?_⟩
  refine callsDIn_of_wpSIn hf hb trivial fun c₀ cs hu => ?_
  apply wpSIn_seq
  apply wpSIn_region
  rw [hn, act_args vs n (by rw [hvs]; exact Nat.le_of_ble_eq_true hl)]
  generalize hen : argEnv 0 vs = e
  have key : y.wpSIn Fence.wide 0 P (bodyPostS P fn c₀ cs fun x u' w' => (∃ v, x = .returned v) ∧ settle u' = .returning ∧ Sat w0 w' Rs) (actM [] n ((d2, .nilIface) :: (d1, .nilIface) :: e)) (c₀ :: cs) w := by
    refine wpSIn_of_wpIn rfl (Code.wpIn_mono ?_ (hen ▸ h w0 Rs vs hvs w hw))
    rintro x a w' ⟨hx, hd, hw'⟩
    have hc0 : c₀ :: cs = { c₀ with mode := .returning } :: cs := by cases c₀; simp_all
    rcases hx with rfl | rfl
    · exact ⟨hd, .returning, hc0, .tuple #[], by simp [results, hr], ⟨_, rfl⟩, rfl, hw'⟩
    · exact ⟨hd, .returning, hc0, .tuple #[], by simp [results, hr], ⟨_, rfl⟩, rfl, hw'⟩
  have hval : ∀ a0 : Value, (actM [] n ((d1, a0) :: e)).eval (.tmp d1) = a0 := fun a0 => by
    have := slots_getElem? n ((d1, a0) :: e) d1 hd1
    simp [Act.eval, actM, this, look]
  have hrun : ∀ (ρ : Operand → Value) (w : World), (execOp ρ { dst := some d1, op := .call { callee := .builtin .recover, args := #[], argTypes := ts }, type := ty, pos := p1, after := #[], guard := none }).run P w = .ok .recover w := by
    intro ρ w
    unfold execOp
    simp [resolve, invoke, builtin]
  have hass : ∀ (ρ : Operand → Value) (w : World), (execOp ρ { dst := some d2, op := .assign (.tmp d1), type := ty, pos := p2, after := aft, guard := none }).run P w = .ok (.value (ρ (.tmp d1))) w := by
    intro ρ w
    unfold execOp
    simp
  have hrc : recoverD (c₀ :: cs) = none := by cases c₀; simp_all [recoverD]
  show wpOpsSIn Fence.wide 0 P _ _ [0, 1] (actM [] n e) (c₀ :: cs) w
  unfold wpOpsSIn
  simp only [List.getElem?_toArray, List.getElem?_cons_zero]
  refine ⟨fun _ _ => trivial, ?_⟩
  rw [if_pos (by simp [Region.wanted]), hrun]
  simp only
  rw [hrc]
  simp only
  show wpOpsSIn Fence.wide 0 P _ _ [1] ((actM [] n e).put (some d1) .nilIface) (c₀ :: cs) w
  rw [actM_put]
  unfold wpOpsSIn
  simp only [List.getElem?_toArray, List.getElem?_cons_succ, List.getElem?_cons_zero]
  refine ⟨fun _ _ => trivial, ?_⟩
  rw [if_pos (by simp [Region.wanted]), hass, hval]
  simp only
  unfold wpOpsSIn
  rw [actM_put]
  exact key
instance PureOp.ineV {n : Nat} {e : Env} {x : Operand} {ty t t' : TypeId} {ms : Array (String × TypeId)} [hx : Ev n e x .nilIface] [hu : Und P t (.interface ms)] : PureOp P n e (.binOp .neq t x (.const .nilIface) t') ty (.bool false) :=
  ⟨fun o h1 _ w => by
    have hy : Ev n e (.const .nilIface) .nilIface := ⟨rfl⟩
    exact run_ne_of h1 w (by simp [eqGuard]) (run_neq_of .nilIface .nilIface (r := true) rfl fun d => by simp [Op.equalIn, run_und (t := t)])⟩
theorem sq_postV {n : Nat} {w0 : World} {e : Env} {Rs : List Res} {x : Exit} (hx : x = .normal ∨ x = .ret) : SQ (PostV P w0 Rs) n w0 x e Rs := fun w hw => ⟨hx, rfl, hw⟩
end
end Go.Gsl

namespace Go.Gsl
set_option linter.unusedVariables false

theorem okWide_one {P : Program} {w : World} {r : Reach} {base : Nat} {t : TypeId} {v : Value} (h : Cell.okWide P w r base t v) : v.oneCell' = true := by
  unfold Cell.okWide at h
  cases v <;> first | rfl | skip
  all_goals
    split at h
    all_goals first
    | (rename_i h1 h2; cases h2; done)
    | (unfold Cell.ok at h
       split at h <;> first | (rename_i h1 h2; cases h2; done) | exact h.elim | rfl)
/-- a struct handed in: its cells -/
theorem read_opq {P : Program} {w : World} {r : Reach} {base n : Nat} {t : TypeId} {v : Value} {fs : Array Field} {φ : Prop} (hu : P.underlying t = some (.struct fs)) (hc : P.cellsOf t = n) (h : Value.okWide P w r base t v) (_ : φ) :
    ∃ cs : List Value, v = .agg cs.toArray ∧ cs.length = n ∧ ∀ u ∈ cs, u.oneCell' = true := by
  unfold Value.okWide at h
  rw [hu] at h
  obtain ⟨cs, rfl, h1, ts, _, _, h2⟩ := h
  refine ⟨cs.toList, by simp, by rw [← hc, ← h1]; rfl, fun u hu => ?_⟩
  obtain ⟨i, hi, rfl⟩ := List.mem_iff_getElem.1 hu
  obtain ⟨t', _, h3⟩ := h2 i _ (by rw [← Array.getElem?_toList, List.getElem?_eq_getElem hi])
  exact okWide_one h3
/-- the values, one behind the other -/
def optS (l : List Value) (k : Nat) : Value := (l[k]?).getD (.bool false)
theorem optS_one {l : List Value} (h : ∀ u ∈ l, u.oneCell' = true) (k : Nat) : (optS l k).oneCell' = true := by
  unfold optS
  cases hk : l[k]? with
  | none => rfl
  | some v => exact h v (List.mem_of_getElem? hk)
theorem one_app {a b : List Value} (ha : ∀ u ∈ a, u.oneCell' = true) (hb : ∀ u ∈ b, u.oneCell' = true) : ∀ u ∈ a ++ b, u.oneCell' = true := fun u hu => by
  rcases List.mem_append.1 hu with h | h
  · exact ha u h
  · exact hb u h
/-- a call that needs no memory -/
theorem call_of_run {P : Program} {f : FuncId} {args : List Value} (W : World) (h : Spec P f args [] [] fun F v Rs' => v = .bool true ∧ Rs' = F) : Calls P f args.toArray W fun e W' => e = .returned (.bool true) ∧ RowKit.Below W.heap.size W W' :=
  call_of_spec W fun w0 F w hw => (h w0 ((0, ro W) :: F) w hw).mono fun x w' ⟨v, Rs', h1, ⟨h2, h3⟩, h4⟩ => ⟨v, Rs', h1, ⟨h2, F, h3⟩, h4⟩
end Go.Gsl

namespace Go.Gsl
set_option linter.unusedVariables false
/-- a struct of whole numbers handed in -/
theorem read_ints {P : Program} {w : World} {r : Reach} {base n : Nat} {t : TypeId} {v : Value} {fs : Array Field} {ts : List TypeId} {φ : Prop} (hu : P.underlying t = some (.struct fs)) (hc : P.cellsOf t = n) (ht : P.cellTypes P.depth t = some ts) (hi : ∀ u ∈ ts, P.underlying u = some (.int .i64)) (h : Value.okWide P w r base t v) (_ : φ) :
    ∃ xs : List Int, v = .agg (xs.map (Value.int .i64)).toArray ∧ xs.length = n ∧ ∀ x ∈ xs, IntKind.i64.has x := by
  unfold Value.okWide at h
  rw [hu] at h
  obtain ⟨cs, rfl, h1, ts', h2, _, h3⟩ := h
  rw [ht] at h2; cases h2
  have key : ∀ l : List Value, (∀ u ∈ l, ∃ x, u = .int .i64 x ∧ IntKind.i64.has x) → ∃ xs : List Int, l = xs.map (Value.int .i64) ∧ ∀ x ∈ xs, IntKind.i64.has x := by
    intro l
    induction l with
    | nil => intro _; exact ⟨[], rfl, fun x hx => (by cases hx)⟩
    | cons u l ih =>
      intro hl
      obtain ⟨x, rfl, hx⟩ := hl u List.mem_cons_self
      obtain ⟨xs, rfl, hxs⟩ := ih fun u hu => hl u (List.mem_cons_of_mem _ hu)
      exact ⟨x :: xs, rfl, fun y hy => by rcases List.mem_cons.1 hy with rfl | hy; · exact hx
                                          · exact hxs y hy⟩
  obtain ⟨xs, hxs, hx⟩ := key cs.toList fun u hu => by
    obtain ⟨i, hi', rfl⟩ := List.mem_iff_getElem.1 hu
    obtain ⟨t', h4, h5⟩ := h3 i _ (by rw [← Array.getElem?_toList, List.getElem?_eq_getElem hi'])
    have h6 := hi t' (List.mem_of_getElem? h4)
    generalize cs.toList[i] = u at h5
    unfold Cell.okWide at h5
    rw [h6] at h5
    cases u <;> simp only [Cell.ok, h6] at h5 <;> try exact h5.elim
    obtain ⟨rfl, h7⟩ := h5
    exact ⟨_, rfl, by simpa using h7⟩
  refine ⟨xs, by rw [← hxs], by rw [← hc, ← h1]; have : cs.toList.length = cs.size := rfl; rw [← this, hxs]; simp, hx⟩
theorem has_I64 {x : Int} (h : IntKind.i64.has x) : -9223372036854775808 ≤ x ∧ x ≤ 9223372036854775807 := by
  have h : IntKind.i64.min ≤ x ∧ x ≤ IntKind.i64.max := h
  rw [show IntKind.i64.min = -9223372036854775808 from rfl, show IntKind.i64.max = 9223372036854775807 from rfl] at h
  exact h
theorem wf_I64 {n : Int} (h : (Lit.int .i64 n).wf = true) : -9223372036854775808 ≤ n ∧ n ≤ 9223372036854775807 := by
  simp only [Lit.wf, Bool.and_eq_true, decide_eq_true_eq] at h
  rw [show IntKind.i64.min = -9223372036854775808 from rfl, show IntKind.i64.max = 9223372036854775807 from rfl] at h
  exact h
end Go.Gsl
