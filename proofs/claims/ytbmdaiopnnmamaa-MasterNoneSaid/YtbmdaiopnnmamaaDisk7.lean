/- Barrier, New. -/
import Derived.Test.YtbmdaiopnnmamaaDisk6
namespace Go.Gsl
set_option linter.unusedVariables false
open Go.Proofs

def mergeV (f : Int → Option Value) (vs : List Value) : List Value := vs.mapIdx fun i v => (f i).getD v
def mergeS (g : Int → Option (List Int)) (ss : List (List Int)) : List (List Int) := ss.mapIdx fun i x => (g i).getD x

/-- all made sure -/
def Dk.barred (s : Dk) : Dk := { s.met with sure := mergeS s.dirty s.sure, dirty := fun _ => none }

theorem Dk.barred_wf {s : Dk} (h : s.met.Wf) : s.barred.Wf where
  n1 := by show 1 ≤ (mergeS s.dirty s.sure).length; unfold mergeS; rw [List.length_mapIdx]; exact h.n1
  n2 := by show (mergeS s.dirty s.sure).length ≤ 16384; unfold mergeS; rw [List.length_mapIdx]; exact h.n2
  sec := fun xs hx => by
    have hx : xs ∈ mergeS s.dirty s.sure := hx
    unfold mergeS at hx
    obtain ⟨i, hi, rfl⟩ := List.mem_mapIdx.1 hx
    cases hd : s.dirty i with
    | none => exact h.sec _ (List.getElem_mem _)
    | some ys => exact h.dsec i ys hd
  dsec := fun i xs hx => by cases hx
  dat := fun i xs hx => by cases hx
  f1 := h.f1
  f2 := h.f2
  k1 := h.k1

theorem DPers.barred {x : DX} {s : Dk} {h : Hp} (hp : DPers x.vs x.f x.kv s.met h) : DPers (mergeV x.f x.vs) mnil x.kv s.barred h := by
  refine ⟨fun i v xs hv hx => ?_, fun j => ⟨rfl, fun v xs hv => by cases hv⟩, hp.2.2⟩
  have hx : (mergeS s.dirty s.sure)[i]? = some xs := hx
  unfold mergeV at hv
  unfold mergeS at hx
  rw [List.getElem?_mapIdx] at hv hx
  obtain ⟨u, hu, rfl⟩ := Option.map_eq_some_iff.1 hv
  obtain ⟨y, hy, rfl⟩ := Option.map_eq_some_iff.1 hx
  obtain ⟨h1, h2⟩ := hp.2.1 i
  cases hf : x.f i with
  | none =>
    rw [hf] at h1
    have hd : s.dirty i = none := by cases hq : s.dirty i with
      | none => rfl
      | some z => have : (s.met.dirty i).isSome = true := by show (s.dirty i).isSome = true; rw [hq]; rfl
                  rw [← h1] at this; cases this
    rw [hd]
    exact hp.1 i u y hu hy
  | some v =>
    rw [hf] at h1
    obtain ⟨z, hz⟩ := Option.isSome_iff_exists.1 h1.symm
    have hz' : s.dirty i = some z := hz
    rw [hz']
    exact h2 v z hf hz

/-- the loop of Barrier, in plain terms -/
theorem merge_step {f : Int → Option Value} {vs ws : List Value} {D : List (Int × Value)} {i : Int} {v : Value} (hi : f i = some v) (h0 : 0 ≤ i) (h1 : i.toNat < ws.length)
    (hw : ∀ j : Nat, ws[j]? = if (j : Int) ∈ D.map (·.1) then f j else vs[j]?) : ∀ j : Nat, (ws.set i.toNat v)[j]? = if (j : Int) ∈ (D ++ [(i, v)]).map (·.1) then f j else vs[j]? := by
  intro j
  rw [List.getElem?_set]
  by_cases hj : i.toNat = j
  · rw [if_pos hj, if_pos h1]
    have e : (j : Int) = i := by omega
    rw [e, if_pos (by simp), hi]
  · rw [if_neg hj, hw j]
    have e : (j : Int) ≠ i := by omega
    have e2 : ((j : Int) ∈ (D ++ [(i, v)]).map (·.1)) ↔ ((j : Int) ∈ D.map (·.1)) := by simp [e]
    simp only [e2]
theorem merge_done {f : Int → Option Value} {vs ws : List Value} {D : List (Int × Value)} (hall : ∀ i v, f i = some v → (i, v) ∈ D) (hD : ∀ i v, (i, v) ∈ D → f i = some v)
    (hdom : ∀ i, (f i).isSome = true → 0 ≤ i ∧ i.toNat < vs.length) (hw : ∀ j : Nat, ws[j]? = if (j : Int) ∈ D.map (·.1) then f j else vs[j]?) : ws = mergeV f vs := by
  refine List.ext_getElem? fun j => ?_
  unfold mergeV
  rw [hw j, List.getElem?_mapIdx]
  cases hf : f (j : Int) with
  | none =>
    rw [if_neg]
    · cases vs[j]? with
      | none => rfl
      | some u => simp only [Option.map_some, Option.getD_none]
    · intro hm
      obtain ⟨⟨a, u⟩, ha, e⟩ := List.mem_map.1 hm
      simp only at e
      subst e
      rw [hD _ u ha] at hf; cases hf
  | some v =>
    have hlt := (hdom j (by rw [hf]; rfl)).2
    rw [if_pos (List.mem_map.2 ⟨((j : Int), v), hall _ v hf, rfl⟩)]
    rw [Int.toNat_natCast] at hlt
    rw [List.getElem?_eq_getElem hlt, Option.map_some]; simp

theorem DX.barred_ok {x : DX} {s : Dk} (hx : x.Ok s.met) : ({ x with vs := mergeV x.f x.vs, f := mnil } : DX).Ok s.barred where
  wf := Dk.barred_wf hx.wf
  len := by show (mergeV x.f x.vs).length = (mergeS s.dirty s.sure).length; unfold mergeV mergeS; rw [List.length_mapIdx, List.length_mapIdx]; exact hx.len
  dom := fun j => rfl
  one := fun j v hv => by cases hv

theorem dBarrier_bad (p : Nat) (s : Dk) (hb : s.looks 0 ≠ 0) : Spec Try.prog 68 [.pointer (some ⟨p, 0, none⟩)] [p] [DISK p s]
    fun F v Rs' => v = .int .i64 (s.looks 0) ∧ Rs' = (p, DISK p s) :: F := by
  refine spec_of Try.func68 rfl Try.ntmps68 rfl ?_
  intro w0 F
  repeat' (first | with_reducible (first | refine sw_op ?_ | refine sw_op_ ?_) | ((with_reducible refine sw_call (dLooks_ok p s 0) ?_); rintro _ _ ⟨rfl, rfl⟩) | with_reducible (first | refine sw_nil ?_ | refine sq_then ?_ | refine sc_seq ?_ | refine sc_region ?_ | refine sw_guard_skip ?_ | refine sw_guard_skip_ ?_ | refine sw_guard_run ?_ | refine sc_cond_true ?_ | refine sc_cond_false ?_ | refine sc_ret ?_ | refine sq_then_ret ?_ | refine sc_skip ?_ | refine sc_block ?_ | refine sq_block ?_ | refine sq_block_ret ?_ | refine sc_exit ?_ | refine sq_then_exit ?_ | refine sq_block_exit ?_ | refine sq_block_past ?_ | refine sq_round_ret ?_ | refine sq_round_exit ?_) | (with_reducible refine sc_cond (fun h => ?_) (fun h => ?_)) <;> (try (exfalso; first | contradiction | omega | exact h Iff.rfl)) | (with_reducible refine sw_guard_split (fun h => ?_) (fun h => ?_)) <;> (try (exfalso; first | contradiction | omega | exact h Iff.rfl)) | (with_reducible refine sw_pick (fun h => ?_) (fun h => ?_)) <;> (try (exfalso; first | contradiction | omega | exact h Iff.rfl)) | fail)
  refine sq_ret1 Try.results68 ?_
  exact ⟨_, ⟨rfl, rfl⟩, Ent.refl _⟩

theorem dBarrier_ok (p : Nat) (s : Dk) (hb : s.looks 0 = 0) : Spec Try.prog 68 [.pointer (some ⟨p, 0, none⟩)] [p] [DISK p s]
    fun F v Rs' => (s.fuse ≠ 1 ∧ v = .int .i64 0 ∧ Rs' = (p, DISK p s.barred) :: F) ∨
      (s.fuse = 1 ∧ v = .int .i64 6 ∧ ∃ ks, KeysD s.dirty ks ∧ Rs' = (p, DISK p (s.met.gone ks s.keep)) :: F) := by
  refine spec_of Try.func68 rfl Try.ntmps68 rfl ?_
  intro w0 F
  repeat' (first | with_reducible (first | refine sw_op ?_ | refine sw_op_ ?_) | ((with_reducible refine sw_call (dLooks_ok p s 0) ?_); rintro _ _ ⟨rfl, rfl⟩) | ((with_reducible refine sw_call (dMeets_ok p s) ?_); rintro _ _ ⟨rfl, rfl⟩) | with_reducible (first | refine sw_nil ?_ | refine sq_then ?_ | refine sc_seq ?_ | refine sc_region ?_ | refine sw_guard_skip ?_ | refine sw_guard_skip_ ?_ | refine sw_guard_run ?_ | refine sc_cond_true ?_ | refine sc_cond_false ?_ | refine sc_ret ?_ | refine sq_then_ret ?_ | refine sc_skip ?_ | refine sc_block ?_ | refine sq_block ?_ | refine sq_block_ret ?_ | refine sc_exit ?_ | refine sq_then_exit ?_ | refine sq_block_exit ?_ | refine sq_block_past ?_ | refine sq_round_ret ?_ | refine sq_round_exit ?_) | (with_reducible refine sc_cond (fun h => ?_) (fun h => ?_)) <;> (try (exfalso; first | contradiction | omega | exact h Iff.rfl)) | (with_reducible refine sw_guard_split (fun h => ?_) (fun h => ?_)) <;> (try (exfalso; first | contradiction | omega | exact h Iff.rfl)) | (with_reducible refine sw_pick (fun h => ?_) (fun h => ?_)) <;> (try (exfalso; first | contradiction | omega | exact h Iff.rfl)) | fail)
  · refine DISK.sw (p := p) (s := s.met) fun y hy => ?_
    unfold DISKl
    refine sw_ent (Ent.dup_take (k := y.q) (k' := y.q + 1) (r' := BoolsI y.kv s.keep) fun _ hp => hp.2.2.fp) ?_
    repeat' (first | with_reducible (first | refine sw_op ?_ | refine sw_op_ ?_) | with_reducible (first | refine sw_nil ?_ | refine sq_then ?_ | refine sc_seq ?_ | refine sc_region ?_ | refine sw_guard_skip ?_ | refine sw_guard_skip_ ?_ | refine sw_guard_run ?_ | refine sc_cond_true ?_ | refine sc_cond_false ?_ | refine sc_ret ?_ | refine sq_then_ret ?_ | refine sc_skip ?_ | refine sc_block ?_ | refine sq_block ?_ | refine sq_block_ret ?_ | refine sc_exit ?_ | refine sq_then_exit ?_ | refine sq_block_exit ?_ | refine sq_block_past ?_ | refine sq_round_ret ?_ | refine sq_round_exit ?_) | fail)
    refine sw_bools (y.q + 1) fun rr hrr => ?_
    refine sw_ent (Rs'' := (p, DISK p s.met) :: (y.q + 1, rr) :: F) ?_ ?_
    · refine Ent.trans (B := DISKl p s.met y ((y.q + 1, rr) :: F)) ?_ (DISK.close hy)
      unfold DISKl
      repeat' (first | with_reducible exact Ent.refl _ | with_reducible refine Ent.take_eq ?_ ?_ | rfl | with_reducible refine Ent.trans (Ent.drop _ _) ?_)
    have hkl : s.keep.length ≤ 9223372036854775807 := hy.wf.k1
    repeat' (first | with_reducible (first | refine sw_op ?_ | refine sw_op_ ?_) | ((with_reducible refine sw_call (dGoes_ok p (y.q + 1) s.met rr y.kv s.keep hrr hkl) ?_); rintro _ _ ⟨ks, hks, rfl, rfl⟩) | with_reducible (first | refine sw_nil ?_ | refine sq_then ?_ | refine sc_seq ?_ | refine sc_region ?_ | refine sw_guard_skip ?_ | refine sw_guard_skip_ ?_ | refine sw_guard_run ?_ | refine sc_cond_true ?_ | refine sc_cond_false ?_ | refine sc_ret ?_ | refine sq_then_ret ?_ | refine sc_skip ?_ | refine sc_block ?_ | refine sq_block ?_ | refine sq_block_ret ?_ | refine sc_exit ?_ | refine sq_then_exit ?_ | refine sq_block_exit ?_ | refine sq_block_past ?_ | refine sq_round_ret ?_ | refine sq_round_exit ?_) | fail)
    refine sq_ret1 Try.results68 ?_
    refine ⟨_, .inr ⟨by assumption, rfl, ks, hks, rfl⟩, ?_⟩
    repeat' (first | with_reducible exact Ent.refl _ | with_reducible refine Ent.take_eq ?_ ?_ | rfl | with_reducible refine Ent.trans (Ent.drop _ _) ?_)
  · refine DISK.sw (p := p) (s := s.met) fun x hx => ?_
    unfold DISKl
    repeat' (first | with_reducible (first | refine sw_op ?_ | refine sw_op_ ?_) | with_reducible (first | refine sw_nil ?_ | refine sq_then ?_ | refine sc_seq ?_ | refine sc_region ?_ | refine sw_guard_skip ?_ | refine sw_guard_skip_ ?_ | refine sw_guard_run ?_ | refine sc_cond_true ?_ | refine sc_cond_false ?_ | refine sc_ret ?_ | refine sq_then_ret ?_ | refine sc_skip ?_ | refine sc_block ?_ | refine sq_block ?_ | refine sq_block_ret ?_ | refine sc_exit ?_ | refine sq_then_exit ?_ | refine sq_block_exit ?_ | refine sq_block_past ?_ | refine sq_round_ret ?_ | refine sq_round_exit ?_) | fail)
    refine sw_range (k := .i64) fun r N => ?_
    repeat' (first | with_reducible (first | refine sw_op ?_ | refine sw_op_ ?_) | with_reducible (first | refine sw_nil ?_ | refine sq_then ?_ | refine sc_seq ?_ | refine sc_region ?_ | refine sw_guard_skip ?_ | refine sw_guard_skip_ ?_ | refine sw_guard_run ?_ | refine sc_cond_true ?_ | refine sc_cond_false ?_ | refine sc_ret ?_ | refine sq_then_ret ?_ | refine sc_skip ?_ | refine sc_block ?_ | refine sq_block ?_ | refine sq_block_ret ?_ | refine sc_exit ?_ | refine sq_then_exit ?_ | refine sq_block_exit ?_ | refine sq_block_past ?_ | refine sq_round_ret ?_ | refine sq_round_exit ?_) | fail)
    refine sc_loop (α := { y : List (Int × Value) × List Value // (∀ i v, (i, v) ∈ y.1 → x.f i = some v) ∧ y.2.length = x.vs.length ∧ ∀ j : Nat, y.2[j]? = if (j : Int) ∈ y.1.map (·.1) then x.f j else x.vs[j]? }) (fun y => [(0, .pointer (some ⟨p, 0, none⟩)), (23, .pointer (some ⟨r, 0, none⟩))])
      (fun y => (r, ItI .i64 x.m r x.f N y.1.1) :: (p, pts p (drow x.bS x.vs.length (x.vs.length + x.r.length) x.m s.met.down s.met.calls s.met.fuse x.kv)) :: (x.bS, pts x.bS (.cells (y.1.2 ++ x.r).toArray 24 (0, 0))) :: (x.q, DPers x.vs x.f x.kv s.met) :: F)
      (fun y => N - y.1.1.length) ⟨([], x.vs), by simp, rfl, by simp⟩ ?_ ?_ ?_
    · exact says_cons rfl (says_cons rfl says_nil)
    · repeat' (first | with_reducible exact Ent.refl _ | with_reducible refine Ent.take_eq ?_ ?_ | rfl | with_reducible refine Ent.trans (Ent.drop _ _) ?_)
    rintro ⟨⟨D, vs⟩, hD, hl, hvs⟩ e
    simp only at hD hl hvs
    simp only [List.cons_append, List.nil_append]
    refine sc_seq ?_
    refine sc_region ?_
    refine sw_next ?_ ?_
    · intro hall
      have hdom : ∀ i, (x.f i).isSome = true → 0 ≤ i ∧ i.toNat < x.vs.length := fun i hi => by
        rw [hx.dom i] at hi
        obtain ⟨xs, hxs⟩ := Option.isSome_iff_exists.1 hi
        have h1 := hx.wf.dat i xs hxs
        have h2 := hx.len
        omega
      have hvs' := merge_done hall hD hdom hvs
      subst hvs'
      refine sw_ent ItI.map ?_
      repeat' (first | with_reducible (first | refine sw_op ?_ | refine sw_op_ ?_) | with_reducible refine sw_clear ?_ | with_reducible (first | refine sw_nil ?_ | refine sq_then ?_ | refine sc_seq ?_ | refine sc_region ?_ | refine sw_guard_skip ?_ | refine sw_guard_skip_ ?_ | refine sw_guard_run ?_ | refine sc_cond_true ?_ | refine sc_cond_false ?_ | refine sc_ret ?_ | refine sq_then_ret ?_ | refine sc_skip ?_ | refine sc_block ?_ | refine sq_block ?_ | refine sq_block_ret ?_ | refine sc_exit ?_ | refine sq_then_exit ?_ | refine sq_block_exit ?_ | refine sq_block_past ?_ | refine sq_round_ret ?_ | refine sq_round_exit ?_) | fail)
      refine sq_ret1 Try.results68 ?_
      refine ⟨_, .inl ⟨by assumption, rfl, rfl⟩, Ent.trans ?_ (Ent.trans (Ent.cons _ (Ent.cons _ (Ent.cons _ (Ent.head fun _ hp => DPers.barred hp)))) (DISK.close (p := p) (DX.barred_ok hx)))⟩
      have e1 : (mergeV x.f x.vs).length = x.vs.length := by unfold mergeV; rw [List.length_mapIdx]
      simp only [e1]
      repeat' (first | with_reducible exact Ent.refl _ | with_reducible refine Ent.take_eq ?_ ?_ | rfl | with_reducible refine Ent.trans (Ent.drop _ _) ?_)
    · intro i v hi hno hlt
      have hv := hx.one i v hi
      haveI : One v := ⟨hv⟩
      have hdi : 0 ≤ i ∧ i.toNat < x.vs.length := by
        have h1 : (s.met.dirty i).isSome = true := by rw [← hx.dom i, hi]; rfl
        obtain ⟨xs, hxs⟩ := Option.isSome_iff_exists.1 h1
        have h2 := hx.wf.dat i xs hxs
        have h3 := hx.len
        omega
      repeat' (first | with_reducible (first | refine sw_op ?_ | refine sw_op_ ?_) | with_reducible refine sw_idx i.toNat (by omega) ?_ | with_reducible refine sw_storeAt (by rw [List.length_append]; omega) ?_ | with_reducible (first | refine sw_nil ?_ | refine sq_then ?_ | refine sc_seq ?_ | refine sc_region ?_ | refine sw_guard_skip ?_ | refine sw_guard_skip_ ?_ | refine sw_guard_run ?_ | refine sc_cond_true ?_ | refine sc_cond_false ?_ | refine sc_ret ?_ | refine sq_then_ret ?_ | refine sc_skip ?_ | refine sc_block ?_ | refine sq_block ?_ | refine sq_block_ret ?_ | refine sc_exit ?_ | refine sq_then_exit ?_ | refine sq_block_exit ?_ | refine sq_block_past ?_ | refine sq_round_ret ?_ | refine sq_round_exit ?_) | (with_reducible refine sc_cond (fun h => ?_) (fun h => ?_)) <;> (try (exfalso; first | contradiction | omega | exact h Iff.rfl)) | fail)
      have e3 : (vs ++ x.r).set i.toNat v = vs.set i.toNat v ++ x.r := List.set_append_left _ _ (by omega)
      rw [e3]
      refine sq_round ⟨(D ++ [(i, v)], vs.set i.toNat v), fun j u hj => ?_, ?_, merge_step hi hdi.1 (by omega) hvs⟩ ?_ ?_ ?_
      · rcases List.mem_append.1 hj with h | h
        · exact hD j u h
        · simp at h; obtain ⟨rfl, rfl⟩ := h; exact hi
      · rw [List.length_set]; exact hl
      · show N - (D ++ [(i, v)]).length < N - D.length
        rw [List.length_append, List.length_singleton]; omega
      · exact says_cons rfl (says_cons rfl says_nil)
      · repeat' (first | with_reducible exact Ent.refl _ | with_reducible refine Ent.take_eq ?_ ?_ | rfl | with_reducible refine Ent.trans (Ent.drop _ _) ?_)
end Go.Gsl
