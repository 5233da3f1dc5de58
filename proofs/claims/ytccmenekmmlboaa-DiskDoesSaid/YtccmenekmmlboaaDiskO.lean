/- DiskOldNew. -/
import Derived.Test.YtccmenekmmlboaaDiskC
import Derived.Test.YtccmenekmmlboaaDiskR
namespace Go.Gsl
set_option linter.unusedVariables false
open Go.Proofs Go.RowKit

theorem mergeS_none (ss : List (List Int)) : mergeS (fun _ => none) ss = ss := by
  refine List.ext_getElem? fun j => ?_
  unfold mergeS; rw [List.getElem?_mapIdx]
  cases ss[j]? <;> rfl
theorem mergeS_put {g : Int → Option (List Int)} {ss : List (List Int)} {a : Int} {xs : List Int} (h0 : 0 ≤ a) (h1 : a < ss.length) :
    mergeS (fun j => if j = a then some xs else g j) ss = (mergeS g ss).set a.toNat xs := by
  refine List.ext_getElem? fun j => ?_
  unfold mergeS
  rw [List.getElem?_set, List.getElem?_mapIdx, List.getElem?_mapIdx, List.length_mapIdx]
  by_cases hj : a.toNat = j
  · rw [if_pos hj, if_pos (by omega), List.getElem?_eq_getElem (show j < ss.length by omega)]
    have e : (j : Int) = a := by omega
    simp [e]
  · rw [if_neg hj]
    have e : (j : Int) ≠ a := by omega
    simp [e]

/-- a sector that lies for ever, whatever its slice's capacity -/
def Sc (v : Value) (xs : List Int) : HProp := fun h => ∃ b c r, v = .slice (some ⟨b, 0, none⟩) xs.length c ∧ imm b (.cells (xs.map (Value.int .u8) ++ r).toArray 5 (0, 0)) h
def Scs (vs : List Value) (ss : List (List Int)) : HProp := fun h => ∀ (i : Nat) (v : Value) (xs : List Int), vs[i]? = some v → ss[i]? = some xs → Sc v xs h
def ScD (f : Int → Option Value) (g : Int → Option (List Int)) : HProp := fun h => ∀ j, (f j).isSome = (g j).isSome ∧ ∀ v xs, f j = some v → g j = some xs → Sc v xs h
theorem Sec.sc {v : Value} {xs : List Int} {h : Hp} (hs : Sec v xs h) : Sc v xs h := by
  obtain ⟨b, r, hv, hi⟩ := hs
  exact ⟨b, _, r, hv, hi⟩
theorem Sc.left {v : Value} {xs : List Int} {x y : Hp} (h : Sc v xs x) : Sc v xs (hjoin x y) := by
  obtain ⟨b, c, r, hv, hi⟩ := h
  exact ⟨b, c, r, hv, imm_left hi⟩
theorem Sc.right {v : Value} {xs : List Int} {x y : Hp} (hd : hdisj x y) (h : Sc v xs y) : Sc v xs (hjoin x y) := by
  rw [hjoin_comm hd]; exact h.left
theorem Sc.fp {v : Value} {xs : List Int} {h : Hp} (hs : Sc v xs h) : Sc v xs (fpart h) := by
  obtain ⟨b, c, r, hv, hi⟩ := hs
  exact ⟨b, c, r, hv, imm_fpart hi⟩
theorem Sc.of_imm {b c : Nat} {xs : List Int} {r : List Value} {h : Hp} (hl : xs.length = 512) (hi : imm b (.cells (xs.map (Value.int .u8) ++ r).toArray 5 (0, 0)) h) : Sc (.slice (some ⟨b, 0, none⟩) 512 c) xs h := ⟨b, c, r, by rw [hl], hi⟩
theorem Zs.scs {us : List Value} {n : Nat} {h : Hp} (hz : Zs us h) : Scs us (List.replicate n (List.replicate 512 0)) h := fun i v xs hv hx => by
  rw [List.getElem?_replicate] at hx
  split at hx
  · cases hx; exact (hz v (List.mem_of_getElem? hv)).sc
  · cases hx
theorem Scs.add {k b c j : Nat} {vs : List Value} {ss : List (List Int)} {xs : List Int} {r : List Value} {F : List Res} (hl : xs.length = 512) :
    Ent ((k, Scs vs ss) :: (b, imm b (.cells (xs.map (Value.int .u8) ++ r).toArray 5 (0, 0))) :: F) ((k, Scs (vs.set j (.slice (some ⟨b, 0, none⟩) 512 c)) (ss.set j xs)) :: F) :=
  Ent.join fun x y hd hx hy i u ys hu hz => by
    rw [List.getElem?_set] at hu hz
    split at hu
    · rename_i e
      rw [if_pos e] at hz
      split at hu
      · split at hz
        · cases hu; cases hz; exact (Sc.of_imm hl hy).right hd
        · cases hz
      · cases hu
    · rename_i e
      rw [if_neg e] at hz
      exact (hx i u ys hu hz).left
theorem ScD.add {k b c : Nat} {f : Int → Option Value} {g : Int → Option (List Int)} {a : Int} {xs : List Int} {r : List Value} {F : List Res} (hl : xs.length = 512) :
    Ent ((k, ScD f g) :: (b, imm b (.cells (xs.map (Value.int .u8) ++ r).toArray 5 (0, 0))) :: F) ((k, ScD (mput f a (.slice (some ⟨b, 0, none⟩) 512 c)) (fun j => if j = a then some xs else g j)) :: F) :=
  Ent.join fun x y hd hx hy j => by
    obtain ⟨e1, e2⟩ := hx j
    simp only [mput]
    by_cases hj : j = a
    · simp only [hj, if_true]
      exact ⟨rfl, fun u ys hu hy2 => by cases hu; cases hy2; exact (Sc.of_imm hl hy).right hd⟩
    · simp only [hj, if_false]
      exact ⟨e1, fun u ys hu hz => (e2 u ys hu hz).left⟩

/-- the last of the sectors, by their places -/
structure Last (f : Int → Option Value) (vl : List Value) (n : Nat) : Prop where
  len : vl.length = n
  at' : ∀ i : Nat, i < n → vl[i]? = some ((f i).getD (.slice none 0 0))
theorem Last.put {f : Int → Option Value} {vl : List Value} {n : Nat} {a : Int} {v : Value} (h : Last f vl n) (h0 : 0 ≤ a) (h1 : a < n) : Last (mput f a v) (vl.set a.toNat v) n where
  len := by rw [List.length_set]; exact h.len
  at' := fun i hi => by
    rw [List.getElem?_set]
    unfold mput
    by_cases hj : a.toNat = i
    · rw [if_pos hj, if_pos (by have := h.len; omega)]
      have e : (i : Int) = a := by omega
      simp [e]
    · rw [if_neg hj, h.at' i hi]
      have e : (i : Int) ≠ a := by omega
      simp [e]
section
variable {P : Program} {ops : List Oper} {Q : Cont} {n : Nat} {w0 : World} {l : List Oper} {e : Env} {Rs F : List Res}
/-- a sector of the row -/
theorem sw_sec (k k' : Nat) {vs : List Value} {ss : List (List Int)} [t : Take Rs k (Scs vs ss) F] (i : Nat) {v : Value} {xs : List Int} (hv : vs[i]? = some v) (hx : ss[i]? = some xs)
    (q : ∀ b c r, v = .slice (some ⟨b, 0, none⟩) xs.length c → SW P ops Q n w0 l e ((k', imm b (.cells (xs.map (Value.int .u8) ++ r).toArray 5 (0, 0))) :: Rs)) : SW P ops Q n w0 l e Rs := by
  intro w hw
  obtain ⟨⟨b, c, r⟩, h1, h2⟩ := (hw.ent (Ent.dup_take (k := k) (k' := k') (r' := Sc v xs) fun _ hp => (hp i v xs hv hx).fp)).opn (α := Nat × Nat × List Value) (φ := fun y => v = .slice (some ⟨y.1, 0, none⟩) xs.length y.2.1)
    (p := fun y => imm y.1 (.cells (xs.map (Value.int .u8) ++ y.2.2).toArray 5 (0, 0))) (by rintro y ⟨b, c, r, hv, hi⟩; exact ⟨(b, c, r), hv, hi⟩)
  exact q b c r h1 w h2
/-- whether a sector was written since -/
theorem sw_last (k k' : Nat) {f : Int → Option Value} {g : Int → Option (List Int)} [t : Take Rs k (ScD f g) F] (i : Int) (h0 : f i = none → g i = none → SW P ops Q n w0 l e Rs)
    (q : ∀ b c r xs, f i = some (.slice (some ⟨b, 0, none⟩) xs.length c) → g i = some xs → SW P ops Q n w0 l e ((k', imm b (.cells (xs.map (Value.int .u8) ++ r).toArray 5 (0, 0))) :: Rs)) : SW P ops Q n w0 l e Rs := by
  cases hg : g i with
  | none =>
    intro w hw
    obtain ⟨⟨⟩, h1, h2⟩ := (hw.ent t.ent).opn (α := Unit) (φ := fun _ => f i = none) (p := fun _ => ScD f g) (by
      intro y hy
      refine ⟨(), ?_, hy⟩
      have := (hy i).1
      rw [hg] at this
      cases hf : f i with
      | none => rfl
      | some v => rw [hf] at this; cases this)
    exact h0 h1 hg w hw
  | some xs =>
    intro w hw
    obtain ⟨⟨b, c, r⟩, h1, h2⟩ := (hw.ent (Ent.dup_take (k := k) (k' := k') (r' := fun h => ∃ v, f i = some v ∧ Sc v xs h) fun _ hp => by
        obtain ⟨h1, h2⟩ := hp i
        rw [hg] at h1
        obtain ⟨v, hv⟩ := Option.isSome_iff_exists.1 h1
        exact ⟨v, hv, (h2 v xs hv hg).fp⟩)).opn (α := Nat × Nat × List Value) (φ := fun y => f i = some (.slice (some ⟨y.1, 0, none⟩) xs.length y.2.1))
      (p := fun y => imm y.1 (.cells (xs.map (Value.int .u8) ++ y.2.2).toArray 5 (0, 0))) (by rintro y ⟨v, hv, b, c, r, rfl, hi⟩; exact ⟨(b, c, r), hv, hi⟩)
    exact q b c r xs h1 hg w h2
end
theorem reads_irow {b : Nat} {xs r : List Value} {t : TypeId} {fr : Nat × Nat} : Reads (imm b (.cells (xs ++ r).toArray t fr)) (some ⟨b, 0, none⟩) xs :=
  reads_imm fun j v hj => by rw [Nat.zero_add, List.getElem?_append_left (List.getElem?_eq_some_iff.1 hj).1]; exact hj

abbrev rowB (b : Nat) (vs : List Value) : HProp := pts b (.cells vs.toArray 23 (0, 0))
theorem Zs.add {k b2 : Nat} {us : List Value} {F : List Res} : Ent ((k, Zs us) :: (b2, imm b2 (.cells (List.replicate 512 (Value.int .u8 0)).toArray 5 (0, 0))) :: F) ((k, Zs (us ++ [Value.slice (some ⟨b2, 0, none⟩) 512 512])) :: F) :=
  Ent.join fun x y hd hx hy v hv => by
    rcases List.mem_append.1 hv with h | h
    · exact (hx v h).left
    · rw [List.mem_singleton.1 h]
      refine Sec.right hd ⟨b2, [], by rw [List.length_replicate]; rfl, ?_⟩
      rw [List.map_replicate, List.append_nil]
      exact hy
theorem set_next {us : List Value} {m : Nat} {v z : Value} (h : us.length < m) : (us ++ List.replicate (m - us.length) z).set us.length v = (us ++ [v]) ++ List.replicate (m - (us ++ [v]).length) z := by
  rw [show m - us.length = (m - (us.length + 1)) + 1 by omega, List.replicate_succ, List.set_append_right _ _ (Nat.le_refl _), Nat.sub_self, List.set_cons_zero, List.append_assoc, List.length_append]; rfl
abbrev secR (b : Nat) (xs : List Int) (r : List Value) : Obj := .cells (xs.map (Value.int .u8) ++ r).toArray 5 (0, 0)

set_option maxHeartbeats 1000000 in
set_option maxRecDepth 20000 in
theorem diskOldNew_ok (W : World) (n : Int) (a1 a2 : Option Addr) (os1 os2 : List Op7) (c1 c2 : Nat) (kv : Value) (bs : List Bool) (h1 : Ops7 W a1 os1) (h2 : Ops7 W a2 os2) (l1 : os1.length ≤ maxLen) (l2 : os2.length ≤ maxLen) (hk : RdW W kv (bs.map Value.bool)) :
    Spec Try.prog 8 [.int .i64 n, .slice a1 os1.length c1, .slice a2 os2.length c2, kv] [0] [ro W] fun F v Rs' => v = .bool true ∧ ∃ G, Rs' = (0, ro W) :: G := by
  unfold maxLen at l1 l2
  have hkb := hk.bools
  obtain ⟨ka, kc, rfl, hkm, hkn, hkr⟩ := hk
  rw [List.length_map] at hkm hkn hkb ⊢
  unfold maxLen at hkm
  refine spec_of Try.func8 rfl Try.ntmps8 rfl ?_
  intro w0 F
  repeat' (first | with_reducible refine sw_op ?_ | with_reducible refine sw_op_ ?_ | ((with_reducible refine sw_call l2begun_ok ?_); rintro _ _ ⟨rfl, rfl⟩) | with_reducible refine sw_nil ?_ | with_reducible refine sq_then ?_ | with_reducible refine sc_seq ?_ | with_reducible refine sc_region ?_ | with_reducible refine sw_guard_skip ?_ | with_reducible refine sw_guard_skip_ ?_ | with_reducible refine sw_guard_run ?_ | with_reducible refine sc_cond_true ?_ | with_reducible refine sc_cond_false ?_ | with_reducible refine sc_ret ?_ | with_reducible refine sq_then_ret ?_ | with_reducible refine sc_skip ?_ | with_reducible refine sc_block ?_ | with_reducible refine sq_block ?_ | with_reducible refine sq_block_ret ?_ | with_reducible refine sc_exit ?_ | with_reducible refine sq_then_exit ?_ | with_reducible refine sq_block_exit ?_ | with_reducible refine sq_block_past ?_ | with_reducible refine sq_round_ret ?_ | with_reducible refine sq_round_exit ?_ | (with_reducible refine sc_cond (fun h => ?_) (fun h => ?_)) <;> (try (exfalso; first | contradiction | omega | exact h Iff.rfl)) | (with_reducible refine sw_guard_split (fun h => ?_) (fun h => ?_)) <;> (try (exfalso; first | contradiction | omega | exact h Iff.rfl)) | (with_reducible refine sw_pick (fun h => ?_) (fun h => ?_)) <;> (try (exfalso; first | contradiction | omega | exact h Iff.rfl)) | fail)
  iterate 2
    · refine sq_ret1 Try.results8 ?_
      exact ⟨_, ⟨rfl, F, rfl⟩, Ent.refl _⟩
  have hn0 : 1 ≤ n ∧ n ≤ 64 := by omega
  obtain ⟨m, rfl⟩ : ∃ m : Nat, n = m := ⟨n.toNat, by omega⟩
  repeat' (first | with_reducible refine sw_op ?_ | with_reducible refine sw_op_ ?_ | ((with_reducible refine sw_call (dNew_ok m (by omega) (by omega)) ?_); rintro _ _ ⟨p, rfl, rfl⟩) | ((with_reducible refine sw_call l2begun_ok ?_); rintro _ _ ⟨rfl, rfl⟩) | with_reducible refine sw_nil ?_ | with_reducible refine sq_then ?_ | with_reducible refine sc_seq ?_ | with_reducible refine sc_region ?_ | with_reducible refine sw_guard_skip ?_ | with_reducible refine sw_guard_skip_ ?_ | with_reducible refine sw_guard_run ?_ | with_reducible refine sc_cond_true ?_ | with_reducible refine sc_cond_false ?_ | with_reducible refine sc_ret ?_ | with_reducible refine sq_then_ret ?_ | with_reducible refine sc_skip ?_ | with_reducible refine sc_block ?_ | with_reducible refine sq_block ?_ | with_reducible refine sq_block_ret ?_ | with_reducible refine sc_exit ?_ | with_reducible refine sq_then_exit ?_ | with_reducible refine sq_block_exit ?_ | with_reducible refine sq_block_past ?_ | with_reducible refine sq_round_ret ?_ | with_reducible refine sq_round_exit ?_ | (with_reducible refine sc_cond (fun h => ?_) (fun h => ?_)) <;> (try (exfalso; first | contradiction | omega | exact h Iff.rfl)) | (with_reducible refine sw_guard_split (fun h => ?_) (fun h => ?_)) <;> (try (exfalso; first | contradiction | omega | exact h Iff.rfl)) | (with_reducible refine sw_pick (fun h => ?_) (fun h => ?_)) <;> (try (exfalso; first | contradiction | omega | exact h Iff.rfl)) | fail)
  refine sw_makeSlice m m ⟨rfl, rfl, by omega, by omega, by omega⟩ fun bO => ?_
  repeat' (first | with_reducible refine sw_op ?_ | with_reducible refine sw_op_ ?_ | with_reducible refine sw_nil ?_ | with_reducible refine sq_then ?_ | with_reducible refine sc_seq ?_ | with_reducible refine sc_region ?_ | with_reducible refine sw_guard_skip ?_ | with_reducible refine sw_guard_skip_ ?_ | with_reducible refine sw_guard_run ?_ | with_reducible refine sc_cond_true ?_ | with_reducible refine sc_cond_false ?_ | with_reducible refine sc_ret ?_ | with_reducible refine sq_then_ret ?_ | with_reducible refine sc_skip ?_ | with_reducible refine sc_block ?_ | with_reducible refine sq_block ?_ | with_reducible refine sq_block_ret ?_ | with_reducible refine sc_exit ?_ | with_reducible refine sq_then_exit ?_ | with_reducible refine sq_block_exit ?_ | with_reducible refine sq_block_past ?_ | with_reducible refine sq_round_ret ?_ | with_reducible refine sq_round_exit ?_ | fail)
  refine sw_makeSlice m m ⟨rfl, rfl, by omega, by omega, by omega⟩ fun bL => ?_
  repeat' (first | with_reducible refine sw_op ?_ | with_reducible refine sw_op_ ?_ | with_reducible refine sw_nil ?_ | with_reducible refine sq_then ?_ | with_reducible refine sc_seq ?_ | with_reducible refine sc_region ?_ | with_reducible refine sw_guard_skip ?_ | with_reducible refine sw_guard_skip_ ?_ | with_reducible refine sw_guard_run ?_ | with_reducible refine sc_cond_true ?_ | with_reducible refine sc_cond_false ?_ | with_reducible refine sc_ret ?_ | with_reducible refine sq_then_ret ?_ | with_reducible refine sc_skip ?_ | with_reducible refine sc_block ?_ | with_reducible refine sq_block ?_ | with_reducible refine sq_block_ret ?_ | with_reducible refine sc_exit ?_ | with_reducible refine sq_then_exit ?_ | with_reducible refine sq_block_exit ?_ | with_reducible refine sq_block_past ?_ | with_reducible refine sq_round_ret ?_ | with_reducible refine sq_round_exit ?_ | fail)
  refine sc_ent (Ent.dup_take (k := bO) (k' := bO + 1) (r' := Zs []) fun _ _ => by intro v hv; cases hv) ?_
  refine sc_loop (α := { us : List Value // us.length ≤ m ∧ ∀ v ∈ us, v.oneCell' = true }) (fun us => [(0, .int .i64 m), (1, .slice a1 os1.length c1), (2, .slice a2 os2.length c2), (3, .slice ka bs.length kc), (9, .pointer (some ⟨p, 0, none⟩)), (11, .slice (some ⟨bO, 0, none⟩) m m), (12, .slice (some ⟨bL, 0, none⟩) m m), (52, .int .i64 m), (53, .int .i64 us.1.length)])
    (fun us => (bO + 1, Zs us.1) :: (bO, rowB bO (us.1 ++ List.replicate (m - us.1.length) (Value.slice none 0 0))) :: (bL, rowB bL (List.replicate m (Value.slice none 0 0))) :: (p, DISK p (Dk.new m)) :: (0, ro W) :: F)
    (fun us => m - us.1.length) ⟨[], by simp, by simp⟩ ?_ ?_ ?_
  · exact says_cons rfl (says_cons rfl (says_cons rfl (says_cons rfl (says_cons rfl (says_cons rfl (says_cons rfl (says_cons rfl (says_cons rfl says_nil))))))))
  · repeat' (first | with_reducible exact Ent.refl _ | with_reducible refine Ent.take_eq ?_ ?_ | rfl | with_reducible refine Ent.trans (Ent.drop _ _) ?_)
  rintro ⟨us, hus, hone⟩ e0
  simp only [List.cons_append, List.nil_append]
  repeat' (first | with_reducible refine sw_op ?_ | with_reducible refine sw_op_ ?_ | with_reducible refine sw_nil ?_ | with_reducible refine sq_then ?_ | with_reducible refine sc_seq ?_ | with_reducible refine sc_region ?_ | with_reducible refine sw_guard_skip ?_ | with_reducible refine sw_guard_skip_ ?_ | with_reducible refine sw_guard_run ?_ | with_reducible refine sc_cond_true ?_ | with_reducible refine sc_cond_false ?_ | with_reducible refine sc_ret ?_ | with_reducible refine sq_then_ret ?_ | with_reducible refine sc_skip ?_ | with_reducible refine sc_block ?_ | with_reducible refine sq_block ?_ | with_reducible refine sq_block_ret ?_ | with_reducible refine sc_exit ?_ | with_reducible refine sq_then_exit ?_ | with_reducible refine sq_block_exit ?_ | with_reducible refine sq_block_past ?_ | with_reducible refine sq_round_ret ?_ | with_reducible refine sq_round_exit ?_ | (with_reducible refine sc_cond (fun h => ?_) (fun h => ?_)) <;> (try (exfalso; first | contradiction | omega | exact h Iff.rfl)) | fail)
  · have hlt : us.length < m := by omega
    repeat' (first | with_reducible refine sw_op ?_ | with_reducible refine sw_op_ ?_ | with_reducible refine sw_makeSlice 512 512 ⟨rfl, rfl, by omega, by omega, by omega⟩ fun b2 => ?_ | with_reducible refine sw_nil ?_ | with_reducible refine sq_then ?_ | with_reducible refine sc_seq ?_ | with_reducible refine sc_region ?_ | with_reducible refine sw_guard_skip ?_ | with_reducible refine sw_guard_skip_ ?_ | with_reducible refine sw_guard_run ?_ | with_reducible refine sc_cond_true ?_ | with_reducible refine sc_cond_false ?_ | with_reducible refine sc_ret ?_ | with_reducible refine sq_then_ret ?_ | with_reducible refine sc_skip ?_ | with_reducible refine sc_block ?_ | with_reducible refine sq_block ?_ | with_reducible refine sq_block_ret ?_ | with_reducible refine sc_exit ?_ | with_reducible refine sq_then_exit ?_ | with_reducible refine sq_block_exit ?_ | with_reducible refine sq_block_past ?_ | with_reducible refine sq_round_ret ?_ | with_reducible refine sq_round_exit ?_ | fail)
    refine sw_idx us.length (by omega) ?_
    refine sw_storeAt (by rw [List.length_append, List.length_replicate]; omega) ?_
    refine sw_freeze (b := b2) ?_
    repeat' (first | with_reducible refine sw_in (by omega) ?_ | with_reducible refine sw_op ?_ | with_reducible refine sw_op_ ?_ | with_reducible refine sw_nil ?_ | with_reducible refine sq_then ?_ | with_reducible refine sc_seq ?_ | with_reducible refine sc_region ?_ | with_reducible refine sw_guard_skip ?_ | with_reducible refine sw_guard_skip_ ?_ | with_reducible refine sw_guard_run ?_ | with_reducible refine sc_cond_true ?_ | with_reducible refine sc_cond_false ?_ | with_reducible refine sc_ret ?_ | with_reducible refine sq_then_ret ?_ | with_reducible refine sc_skip ?_ | with_reducible refine sc_block ?_ | with_reducible refine sq_block ?_ | with_reducible refine sq_block_ret ?_ | with_reducible refine sc_exit ?_ | with_reducible refine sq_then_exit ?_ | with_reducible refine sq_block_exit ?_ | with_reducible refine sq_block_past ?_ | with_reducible refine sq_round_ret ?_ | with_reducible refine sq_round_exit ?_ | fail)
    rw [set_next hlt]
    refine sq_round ⟨us ++ [Value.slice (some ⟨b2, 0, none⟩) 512 512], by rw [List.length_append, List.length_singleton]; omega, fun v hv => ?_⟩ ?_ ?_ ?_
    · rcases List.mem_append.1 hv with h | h
      · exact hone v h
      · rw [List.mem_singleton.1 h]; rfl
    · show m - (us ++ [Value.slice (some ⟨b2, 0, none⟩) 512 512]).length < m - us.length
      rw [List.length_append, List.length_singleton]; omega
    · repeat' (first | exact says_nil | refine says_cons rfl ?_ | refine says_cons (by simp) ?_)
    · refine Ent.trans (B := (bO + 1, Zs us) :: (b2, imm b2 (.cells (List.replicate 512 (Value.int .u8 0)).toArray 5 (0, 0))) :: (bO, rowB bO (us ++ [Value.slice (some ⟨b2, 0, none⟩) 512 512] ++ List.replicate (m - (us ++ [Value.slice (some ⟨b2, 0, none⟩) 512 512]).length) (Value.slice none 0 0))) :: (bL, rowB bL (List.replicate m (Value.slice none 0 0))) :: (p, DISK p (Dk.new m)) :: (0, ro W) :: F) ?_ (Ent.trans Zs.add ?_)
      · repeat' (first | with_reducible exact Ent.refl _ | with_reducible refine Ent.take_eq ?_ ?_ | rfl | with_reducible refine Ent.trans (Ent.drop _ _) ?_)
      · repeat' (first | with_reducible exact Ent.refl _ | with_reducible refine Ent.take_eq ?_ ?_ | rfl | with_reducible refine Ent.trans (Ent.drop _ _) ?_)
  · have hlm : us.length = m := by omega
    rw [hlm, Nat.sub_self, List.replicate_zero, List.append_nil]
    refine sc_ent (Ent.head (k := bO + 1) (F := _) fun h (hz : Zs us h) => Zs.scs (n := m) hz) ?_
    refine sc_loop (α := { y : Nat × Dk × List Value // (y.1 ≤ os1.length ∧ y.2.1.down = false) ∧ y.2.1.fuse = 0 ∧ y.2.1.sure.length = m ∧ y.2.2.length = m }) (fun y => [(0, .int .i64 m), (2, .slice a2 os2.length c2), (3, .slice ka bs.length kc), (9, .pointer (some ⟨p, 0, none⟩)), (11, .slice (some ⟨bO, 0, none⟩) m m), (12, .slice (some ⟨bL, 0, none⟩) m m), (61, .slice a1 os1.length c1), (62, .int .i64 os1.length), (63, .int .i64 y.1.1)])
      (fun y => (bO + 1, Scs y.1.2.2 (mergeS y.1.2.1.dirty y.1.2.1.sure)) :: (bO, rowB bO y.1.2.2) :: (bL, rowB bL (List.replicate m (Value.slice none 0 0))) :: (p, DISK p y.1.2.1) :: (0, ro W) :: F)
      (fun y => os1.length - y.1.1) ⟨(0, Dk.new m, us), ⟨Nat.zero_le _, rfl⟩, rfl, by show (List.replicate m _).length = m; rw [List.length_replicate], hlm⟩ ?_ ?_ ?_
    · repeat' (first | exact says_nil | refine says_cons rfl ?_ | refine says_cons (by simp) ?_)
    · rw [show mergeS (Dk.new m).dirty (Dk.new m).sure = List.replicate m (List.replicate 512 0) from mergeS_none _]
      repeat' (first | with_reducible exact Ent.refl _ | with_reducible refine Ent.take_eq ?_ ?_ | rfl | with_reducible refine Ent.trans (Ent.drop _ _) ?_)
    rintro ⟨⟨k, s, vo⟩, ⟨hk1, hdn⟩, hfu, hsl, hvl⟩ e1
    simp only at hk1 hdn hfu hsl hvl
    simp only [List.cons_append, List.nil_append]
    repeat' (first | with_reducible refine sw_op ?_ | with_reducible refine sw_op_ ?_ | with_reducible refine sw_nil ?_ | with_reducible refine sq_then ?_ | with_reducible refine sc_seq ?_ | with_reducible refine sc_region ?_ | with_reducible refine sw_guard_skip ?_ | with_reducible refine sw_guard_skip_ ?_ | with_reducible refine sw_guard_run ?_ | with_reducible refine sc_cond_true ?_ | with_reducible refine sc_cond_false ?_ | with_reducible refine sc_ret ?_ | with_reducible refine sq_then_ret ?_ | with_reducible refine sc_skip ?_ | with_reducible refine sc_block ?_ | with_reducible refine sq_block ?_ | with_reducible refine sq_block_ret ?_ | with_reducible refine sc_exit ?_ | with_reducible refine sq_then_exit ?_ | with_reducible refine sq_block_exit ?_ | with_reducible refine sq_block_past ?_ | with_reducible refine sq_round_ret ?_ | with_reducible refine sq_round_exit ?_ | (with_reducible refine sc_cond (fun h => ?_) (fun h => ?_)) <;> (try (exfalso; first | contradiction | omega | exact h Iff.rfl)) | fail)
    · have hk2 : k < os1.length := by omega
      obtain ⟨hwf, b, off, rfl, hcell⟩ := h1 k hk2
      haveI := hwf.keep.one
      haveI := hwf.odd.one
      refine sw_index (by omega) ?_
      refine sw_load_agg (sz := 7) (vs := op7v os1[k]) rfl (fun w hw j v hj => ro_cell (W := W) (by simpa using hcell j v hj) w hw) ?_
      refine sw_alloc fun ob => ?_
      refine sw_store_agg ?_
      repeat' (first | with_reducible refine sw_op ?_ | with_reducible refine sw_op_ ?_ | ((with_reducible refine sw_call (l2sector_ok _ _ hwf.a hwf.b) ?_); rintro _ _ ⟨q, r, rfl, rfl⟩) | with_reducible refine sw_nil ?_ | with_reducible refine sq_then ?_ | with_reducible refine sc_seq ?_ | with_reducible refine sc_region ?_ | with_reducible refine sw_guard_skip ?_ | with_reducible refine sw_guard_skip_ ?_ | with_reducible refine sw_guard_run ?_ | with_reducible refine sc_cond_true ?_ | with_reducible refine sc_cond_false ?_ | with_reducible refine sc_ret ?_ | with_reducible refine sq_then_ret ?_ | with_reducible refine sc_skip ?_ | with_reducible refine sc_block ?_ | with_reducible refine sq_block ?_ | with_reducible refine sq_block_ret ?_ | with_reducible refine sc_exit ?_ | with_reducible refine sq_then_exit ?_ | with_reducible refine sq_block_exit ?_ | with_reducible refine sq_block_past ?_ | with_reducible refine sq_round_ret ?_ | with_reducible refine sq_round_exit ?_ | fail)
      refine sw_call (dWrite_any p q s _ _ 512 os1[k].at' (secOf os1[k].a os1[k].b) (secOf_wf hwf.a hwf.b) (by simp) reads_row) ?_
      rintro _ _ (⟨hbad, rfl, rfl⟩ | ⟨hok, hf, rfl, rfl⟩ | ⟨_, hf, _⟩)
      rotate_left
      rotate_left
      · omega
      · repeat' (first | with_reducible refine sw_in (by omega) ?_ | with_reducible refine sw_op ?_ | with_reducible refine sw_op_ ?_ | with_reducible refine sw_nil ?_ | with_reducible refine sq_then ?_ | with_reducible refine sc_seq ?_ | with_reducible refine sc_region ?_ | with_reducible refine sw_guard_skip ?_ | with_reducible refine sw_guard_skip_ ?_ | with_reducible refine sw_guard_run ?_ | with_reducible refine sc_cond_true ?_ | with_reducible refine sc_cond_false ?_ | with_reducible refine sc_ret ?_ | with_reducible refine sq_then_ret ?_ | with_reducible refine sc_skip ?_ | with_reducible refine sc_block ?_ | with_reducible refine sq_block ?_ | with_reducible refine sq_block_ret ?_ | with_reducible refine sc_exit ?_ | with_reducible refine sq_then_exit ?_ | with_reducible refine sq_block_exit ?_ | with_reducible refine sq_block_past ?_ | with_reducible refine sq_round_ret ?_ | with_reducible refine sq_round_exit ?_ | (with_reducible refine sc_cond (fun h => ?_) (fun h => ?_)) <;> (try (exfalso; first | contradiction | omega | exact h Iff.rfl)) | fail)
        refine sq_round ⟨(k + 1, s, vo), ⟨hk2, hdn⟩, hfu, hsl, hvl⟩ ?_ ?_ ?_
        · show os1.length - (k + 1) < os1.length - k
          omega
        · repeat' (first | exact says_nil | refine says_cons rfl ?_ | refine says_cons (by simp) ?_)
        · repeat' (first | with_reducible exact Ent.refl _ | with_reducible refine Ent.take_eq ?_ ?_ | rfl | with_reducible refine Ent.trans (Ent.drop _ _) ?_)
      · obtain ⟨_, ha0, ha1⟩ := Dk.looks_zero hok
        repeat' (first | with_reducible refine sw_in (by omega) ?_ | with_reducible refine sw_op ?_ | with_reducible refine sw_op_ ?_ | with_reducible refine sw_idx os1[k].at'.toNat (by omega) ?_ | with_reducible refine sw_storeAt (by omega) ?_ | with_reducible refine sw_nil ?_ | with_reducible refine sq_then ?_ | with_reducible refine sc_seq ?_ | with_reducible refine sc_region ?_ | with_reducible refine sw_guard_skip ?_ | with_reducible refine sw_guard_skip_ ?_ | with_reducible refine sw_guard_run ?_ | with_reducible refine sc_cond_true ?_ | with_reducible refine sc_cond_false ?_ | with_reducible refine sc_ret ?_ | with_reducible refine sq_then_ret ?_ | with_reducible refine sc_skip ?_ | with_reducible refine sc_block ?_ | with_reducible refine sq_block ?_ | with_reducible refine sq_block_ret ?_ | with_reducible refine sc_exit ?_ | with_reducible refine sq_then_exit ?_ | with_reducible refine sq_block_exit ?_ | with_reducible refine sq_block_past ?_ | with_reducible refine sq_round_ret ?_ | with_reducible refine sq_round_exit ?_ | (with_reducible refine sc_cond (fun h => ?_) (fun h => ?_)) <;> (try (exfalso; first | contradiction | omega | exact h Iff.rfl)) | fail)
        refine sq_freeze (b := q) ?_
        refine sq_round ⟨(k + 1, s.wrote os1[k].at' (secOf os1[k].a os1[k].b), vo.set os1[k].at'.toNat (.slice (some ⟨q, 0, none⟩) 512 512)), ⟨hk2, hdn⟩, ?_, hsl, by rw [List.length_set]; exact hvl⟩ ?_ ?_ ?_
        · show (if s.fuse = 0 then (0 : Int) else s.fuse - 1) = 0
          rw [if_pos hfu]
        · show os1.length - (k + 1) < os1.length - k
          omega
        · repeat' (first | exact says_nil | refine says_cons rfl ?_ | refine says_cons (by simp) ?_)
        · show Ent _ ((bO + 1, Scs (vo.set os1[k].at'.toNat (.slice (some ⟨q, 0, none⟩) 512 512)) (mergeS (fun j => if j = os1[k].at' then some (secOf os1[k].a os1[k].b) else s.dirty j) s.sure)) :: (bO, rowB bO (vo.set os1[k].at'.toNat (.slice (some ⟨q, 0, none⟩) 512 512))) :: (bL, rowB bL (List.replicate m (Value.slice none 0 0))) :: (p, DISK p (s.wrote os1[k].at' (secOf os1[k].a os1[k].b))) :: (0, ro W) :: F)
          rw [mergeS_put ha0 ha1]
          refine Ent.trans ?_ (Scs.add (b := q) (r := r) (secOf_len _ _))
          repeat' (first | with_reducible exact Ent.refl _ | with_reducible refine Ent.take_eq ?_ ?_ | rfl | with_reducible refine Ent.trans (Ent.drop _ _) ?_)
    · have hb0 : s.looks 0 = 0 := Dk.looks_ok hdn (by omega) (by omega)
      refine sw_call (dBarrier_ok p s hb0) ?_
      rintro _ _ (⟨hf, rfl, rfl⟩ | ⟨hf, _⟩)
      rotate_left
      · omega
      repeat' (first | with_reducible refine sw_op ?_ | with_reducible refine sw_op_ ?_ | with_reducible refine sw_nil ?_ | with_reducible refine sq_then ?_ | with_reducible refine sc_seq ?_ | with_reducible refine sc_region ?_ | with_reducible refine sw_guard_skip ?_ | with_reducible refine sw_guard_skip_ ?_ | with_reducible refine sw_guard_run ?_ | with_reducible refine sc_cond_true ?_ | with_reducible refine sc_cond_false ?_ | with_reducible refine sc_ret ?_ | with_reducible refine sq_then_ret ?_ | with_reducible refine sc_skip ?_ | with_reducible refine sc_block ?_ | with_reducible refine sq_block ?_ | with_reducible refine sq_block_ret ?_ | with_reducible refine sc_exit ?_ | with_reducible refine sq_then_exit ?_ | with_reducible refine sq_block_exit ?_ | with_reducible refine sq_block_past ?_ | with_reducible refine sq_round_ret ?_ | with_reducible refine sq_round_exit ?_ | fail)
      have hol : (mergeS s.dirty s.sure).length = m := by rw [mergeS_len]; exact hsl
      have hs2 : s.barred.down = false ∧ s.barred.fuse = 0 ∧ s.barred.sure = mergeS s.dirty s.sure ∧ s.barred.dirty = fun _ => none := ⟨hdn, by show (if s.fuse = 0 then (0 : Int) else s.fuse - 1) = 0; rw [if_pos hfu], rfl, rfl⟩
      generalize hos : mergeS s.dirty s.sure = os at hol hs2
      generalize s.barred = s2 at hs2
      obtain ⟨hd2, hf2, hsu2, hdi2⟩ := hs2
      refine sc_ent (Ent.dup_take (k := bL) (k' := bL + 1) (r' := ScD mnil s2.dirty) fun _ _ => by intro j; rw [hdi2]; exact ⟨rfl, fun v xs h => by cases h⟩) ?_
      refine sc_loop (α := { y : Nat × Dk × (Int → Option Value) × List Value // (y.1 ≤ os2.length ∧ y.2.1.down = false) ∧ y.2.1.fuse = 0 ∧ y.2.1.sure = os ∧ Last y.2.2.1 y.2.2.2 m }) (fun y => [(0, .int .i64 m), (3, .slice ka bs.length kc), (9, .pointer (some ⟨p, 0, none⟩)), (11, .slice (some ⟨bO, 0, none⟩) m m), (12, .slice (some ⟨bL, 0, none⟩) m m), (86, .slice a2 os2.length c2), (87, .int .i64 os2.length), (88, .int .i64 y.1.1)])
        (fun y => (bL + 1, ScD y.1.2.2.1 y.1.2.1.dirty) :: (bO + 1, Scs vo os) :: (bO, rowB bO vo) :: (bL, rowB bL y.1.2.2.2) :: (p, DISK p y.1.2.1) :: (0, ro W) :: F)
        (fun y => os2.length - y.1.1) ⟨(0, s2, mnil, List.replicate m (.slice none 0 0)), ⟨Nat.zero_le _, hd2⟩, hf2, hsu2, ⟨by rw [List.length_replicate], fun i hi => by show (List.replicate m _)[i]? = _; rw [List.getElem?_replicate, if_pos hi]; rfl⟩⟩ ?_ ?_ ?_
      · repeat' (first | exact says_nil | refine says_cons rfl ?_ | refine says_cons (by simp) ?_)
      · repeat' (first | with_reducible exact Ent.refl _ | with_reducible refine Ent.take_eq ?_ ?_ | rfl | with_reducible refine Ent.trans (Ent.drop _ _) ?_)
      clear hdi2 hsu2 hf2 hd2 hf hos hb0 hfu hdn hsl
      rintro ⟨⟨k, s, f, vl⟩, ⟨hk1, hdn⟩, hfu, hsl, hla⟩ e1
      simp only at hk1 hdn hfu hsl hla
      simp only [List.cons_append, List.nil_append]
      repeat' (first | with_reducible refine sw_op ?_ | with_reducible refine sw_op_ ?_ | with_reducible refine sw_nil ?_ | with_reducible refine sq_then ?_ | with_reducible refine sc_seq ?_ | with_reducible refine sc_region ?_ | with_reducible refine sw_guard_skip ?_ | with_reducible refine sw_guard_skip_ ?_ | with_reducible refine sw_guard_run ?_ | with_reducible refine sc_cond_true ?_ | with_reducible refine sc_cond_false ?_ | with_reducible refine sc_ret ?_ | with_reducible refine sq_then_ret ?_ | with_reducible refine sc_skip ?_ | with_reducible refine sc_block ?_ | with_reducible refine sq_block ?_ | with_reducible refine sq_block_ret ?_ | with_reducible refine sc_exit ?_ | with_reducible refine sq_then_exit ?_ | with_reducible refine sq_block_exit ?_ | with_reducible refine sq_block_past ?_ | with_reducible refine sq_round_ret ?_ | with_reducible refine sq_round_exit ?_ | (with_reducible refine sc_cond (fun h => ?_) (fun h => ?_)) <;> (try (exfalso; first | contradiction | omega | exact h Iff.rfl)) | fail)
      · have hk2 : k < os2.length := by omega
        obtain ⟨hwf, b, off, rfl, hcell⟩ := h2 k hk2
        haveI := hwf.keep.one
        haveI := hwf.odd.one
        refine sw_index (by omega) ?_
        refine sw_load_agg (sz := 7) (vs := op7v os2[k]) rfl (fun w hw j v hj => ro_cell (W := W) (by simpa using hcell j v hj) w hw) ?_
        refine sw_alloc fun ob => ?_
        refine sw_store_agg ?_
        repeat' (first | with_reducible refine sw_op ?_ | with_reducible refine sw_op_ ?_ | ((with_reducible refine sw_call (l2sector_ok _ _ hwf.a hwf.b) ?_); rintro _ _ ⟨q, r, rfl, rfl⟩) | with_reducible refine sw_nil ?_ | with_reducible refine sq_then ?_ | with_reducible refine sc_seq ?_ | with_reducible refine sc_region ?_ | with_reducible refine sw_guard_skip ?_ | with_reducible refine sw_guard_skip_ ?_ | with_reducible refine sw_guard_run ?_ | with_reducible refine sc_cond_true ?_ | with_reducible refine sc_cond_false ?_ | with_reducible refine sc_ret ?_ | with_reducible refine sq_then_ret ?_ | with_reducible refine sc_skip ?_ | with_reducible refine sc_block ?_ | with_reducible refine sq_block ?_ | with_reducible refine sq_block_ret ?_ | with_reducible refine sc_exit ?_ | with_reducible refine sq_then_exit ?_ | with_reducible refine sq_block_exit ?_ | with_reducible refine sq_block_past ?_ | with_reducible refine sq_round_ret ?_ | with_reducible refine sq_round_exit ?_ | fail)
        refine sw_call (dWrite_any p q s _ _ 512 os2[k].at' (secOf os2[k].a os2[k].b) (secOf_wf hwf.a hwf.b) (by simp) reads_row) ?_
        rintro _ _ (⟨hbad, rfl, rfl⟩ | ⟨hok, hf, rfl, rfl⟩ | ⟨_, hf, _⟩)
        rotate_left
        rotate_left
        · omega
        · repeat' (first | with_reducible refine sw_in (by omega) ?_ | with_reducible refine sw_op ?_ | with_reducible refine sw_op_ ?_ | with_reducible refine sw_nil ?_ | with_reducible refine sq_then ?_ | with_reducible refine sc_seq ?_ | with_reducible refine sc_region ?_ | with_reducible refine sw_guard_skip ?_ | with_reducible refine sw_guard_skip_ ?_ | with_reducible refine sw_guard_run ?_ | with_reducible refine sc_cond_true ?_ | with_reducible refine sc_cond_false ?_ | with_reducible refine sc_ret ?_ | with_reducible refine sq_then_ret ?_ | with_reducible refine sc_skip ?_ | with_reducible refine sc_block ?_ | with_reducible refine sq_block ?_ | with_reducible refine sq_block_ret ?_ | with_reducible refine sc_exit ?_ | with_reducible refine sq_then_exit ?_ | with_reducible refine sq_block_exit ?_ | with_reducible refine sq_block_past ?_ | with_reducible refine sq_round_ret ?_ | with_reducible refine sq_round_exit ?_ | (with_reducible refine sc_cond (fun h => ?_) (fun h => ?_)) <;> (try (exfalso; first | contradiction | omega | exact h Iff.rfl)) | fail)
          refine sq_round ⟨(k + 1, s, f, vl), ⟨hk2, hdn⟩, hfu, hsl, hla⟩ ?_ ?_ ?_
          · show os2.length - (k + 1) < os2.length - k
            omega
          · repeat' (first | exact says_nil | refine says_cons rfl ?_ | refine says_cons (by simp) ?_)
          · repeat' (first | with_reducible exact Ent.refl _ | with_reducible refine Ent.take_eq ?_ ?_ | rfl | with_reducible refine Ent.trans (Ent.drop _ _) ?_)
        · obtain ⟨_, ha0, ha1⟩ := Dk.looks_zero hok
          rw [hsl, hol] at ha1
          have hvl2 := hla.len
          repeat' (first | with_reducible refine sw_in (by omega) ?_ | with_reducible refine sw_op ?_ | with_reducible refine sw_op_ ?_ | with_reducible refine sw_idx os2[k].at'.toNat (by omega) ?_ | with_reducible refine sw_storeAt (by omega) ?_ | with_reducible refine sw_nil ?_ | with_reducible refine sq_then ?_ | with_reducible refine sc_seq ?_ | with_reducible refine sc_region ?_ | with_reducible refine sw_guard_skip ?_ | with_reducible refine sw_guard_skip_ ?_ | with_reducible refine sw_guard_run ?_ | with_reducible refine sc_cond_true ?_ | with_reducible refine sc_cond_false ?_ | with_reducible refine sc_ret ?_ | with_reducible refine sq_then_ret ?_ | with_reducible refine sc_skip ?_ | with_reducible refine sc_block ?_ | with_reducible refine sq_block ?_ | with_reducible refine sq_block_ret ?_ | with_reducible refine sc_exit ?_ | with_reducible refine sq_then_exit ?_ | with_reducible refine sq_block_exit ?_ | with_reducible refine sq_block_past ?_ | with_reducible refine sq_round_ret ?_ | with_reducible refine sq_round_exit ?_ | (with_reducible refine sc_cond (fun h => ?_) (fun h => ?_)) <;> (try (exfalso; first | contradiction | omega | exact h Iff.rfl)) | fail)
          refine sq_freeze (b := q) ?_
          refine sq_round ⟨(k + 1, s.wrote os2[k].at' (secOf os2[k].a os2[k].b), mput f os2[k].at' (.slice (some ⟨q, 0, none⟩) 512 512), vl.set os2[k].at'.toNat (.slice (some ⟨q, 0, none⟩) 512 512)), ⟨hk2, hdn⟩, ?_, hsl, hla.put ha0 ha1⟩ ?_ ?_ ?_
          · show (if s.fuse = 0 then (0 : Int) else s.fuse - 1) = 0
            rw [if_pos hfu]
          · show os2.length - (k + 1) < os2.length - k
            omega
          · repeat' (first | exact says_nil | refine says_cons rfl ?_ | refine says_cons (by simp) ?_)
          · show Ent _ ((bL + 1, ScD (mput f os2[k].at' (.slice (some ⟨q, 0, none⟩) 512 512)) (fun j => if j = os2[k].at' then some (secOf os2[k].a os2[k].b) else s.dirty j)) :: (bO + 1, Scs vo os) :: (bO, rowB bO vo) :: (bL, rowB bL (vl.set os2[k].at'.toNat (.slice (some ⟨q, 0, none⟩) 512 512))) :: (p, DISK p (s.wrote os2[k].at' (secOf os2[k].a os2[k].b))) :: (0, ro W) :: F)
            refine Ent.trans ?_ (ScD.add (b := q) (r := r) (secOf_len _ _))
            repeat' (first | with_reducible exact Ent.refl _ | with_reducible refine Ent.take_eq ?_ ?_ | rfl | with_reducible refine Ent.trans (Ent.drop _ _) ?_)
      · have hb0 : s.looks 0 = 0 := Dk.looks_ok hdn (by omega) (by rw [hsl, hol]; omega)
        refine DISK.scwf' (p := p) (s := s) fun hw => ?_
        refine sw_call (dCrash_ok p 0 s _ _ bs hkb (by omega) hb0) ?_
        rintro _ _ ⟨ks, hks, rfl, rfl⟩
        repeat' (first | with_reducible refine sw_op ?_ | with_reducible refine sw_op_ ?_ | ((with_reducible refine sw_call (dRestart_up p _) ?_); rintro _ _ ⟨rfl, rfl⟩) | with_reducible refine sw_nil ?_ | with_reducible refine sq_then ?_ | with_reducible refine sc_seq ?_ | with_reducible refine sc_region ?_ | with_reducible refine sw_guard_skip ?_ | with_reducible refine sw_guard_skip_ ?_ | with_reducible refine sw_guard_run ?_ | with_reducible refine sc_cond_true ?_ | with_reducible refine sc_cond_false ?_ | with_reducible refine sc_ret ?_ | with_reducible refine sq_then_ret ?_ | with_reducible refine sc_skip ?_ | with_reducible refine sc_block ?_ | with_reducible refine sq_block ?_ | with_reducible refine sq_block_ret ?_ | with_reducible refine sc_exit ?_ | with_reducible refine sq_then_exit ?_ | with_reducible refine sq_block_exit ?_ | with_reducible refine sq_block_past ?_ | with_reducible refine sq_round_ret ?_ | with_reducible refine sq_round_exit ?_ | fail)
        have h5d : (s.gone ks bs).up.down = false := rfl
        have h5l : (s.gone ks bs).up.sure.length = m := by
          show (goS s.dirty ks bs s.sure).length = m
          rw [goS_len, hsl, hol]
        have h5n : ∀ i : Int, 0 ≤ i → (s.gone ks bs).up.now i = ((s.gone ks bs).sure[i.toNat]?).getD [] := fun i _ => Dk.now_sure rfl
        have hhit := fun (n2 : Nat) (i : Int) (h : ks[n2]? = some i) => Dk.gone_hit (bs := bs) hw hks h
        have hmiss := fun (i : Int) (h0 : 0 ≤ i) (h : i ∉ ks) => Dk.gone_miss (bs := bs) hw hks h0 h
        generalize (s.gone ks bs).up = s5 at h5d h5l h5n
        generalize hG : (s.gone ks bs).sure = S5 at h5n hhit hmiss
        have hksat : ∀ k ∈ ks, 0 ≤ k := fun k hk => by
          obtain ⟨xs, hx⟩ := Option.isSome_iff_exists.1 ((hks.mem k).1 hk)
          exact (hw.dat k xs hx).1
        have hnd := hks.nodup
        have hle := hks.le
        have hmem := hks.mem
        have hdwf := hw.dsec
        have hswf := hw.sec
        have hvl2 := hla.len
        rw [hsl] at hhit hmiss hswf
        refine sc_loop (α := { y : Nat × Nat // (y.1 ≤ m ∧ y.2 ≤ y.1) ∧ AtK ks y.2 y.1 }) (fun y => [(3, .slice ka bs.length kc), (9, .pointer (some ⟨p, 0, none⟩)), (11, .slice (some ⟨bO, 0, none⟩) m m), (12, .slice (some ⟨bL, 0, none⟩) m m), (20, .int .i64 y.1.2), (114, .int .i64 m), (115, .int .i64 y.1.1)])
          (fun y => (bL + 1, ScD f s.dirty) :: (bO + 1, Scs vo os) :: (bO, rowB bO vo) :: (bL, rowB bL vl) :: (p, DISK p s5) :: (0, ro W) :: F)
          (fun y => m - y.1.1) ⟨(0, 0), ⟨Nat.zero_le _, Nat.le_refl _⟩, AtK.zero hksat⟩ ?_ ?_ ?_
        · repeat' (first | exact says_nil | refine says_cons rfl ?_ | refine says_cons (by simp) ?_)
        · repeat' (first | with_reducible exact Ent.refl _ | with_reducible refine Ent.take_eq ?_ ?_ | rfl | with_reducible refine Ent.trans (Ent.drop _ _) ?_)
        rintro ⟨⟨i, n2⟩, ⟨hi, hn2⟩, hat⟩ e2
        simp only at hi hn2 hat
        simp only [List.cons_append, List.nil_append]
        repeat' (first | with_reducible refine sw_op ?_ | with_reducible refine sw_op_ ?_ | with_reducible refine sw_nil ?_ | with_reducible refine sq_then ?_ | with_reducible refine sc_seq ?_ | with_reducible refine sc_region ?_ | with_reducible refine sw_guard_skip ?_ | with_reducible refine sw_guard_skip_ ?_ | with_reducible refine sw_guard_run ?_ | with_reducible refine sc_cond_true ?_ | with_reducible refine sc_cond_false ?_ | with_reducible refine sc_ret ?_ | with_reducible refine sq_then_ret ?_ | with_reducible refine sc_skip ?_ | with_reducible refine sc_block ?_ | with_reducible refine sq_block ?_ | with_reducible refine sq_block_ret ?_ | with_reducible refine sc_exit ?_ | with_reducible refine sq_then_exit ?_ | with_reducible refine sq_block_exit ?_ | with_reducible refine sq_block_past ?_ | with_reducible refine sq_round_ret ?_ | with_reducible refine sq_round_exit ?_ | (with_reducible refine sc_cond (fun h => ?_) (fun h => ?_)) <;> (try (exfalso; first | contradiction | omega | exact h Iff.rfl)) | fail)
        · have hlt : i < m := by omega
          obtain ⟨xo, hoi⟩ : ∃ xo, os[i]? = some xo := ⟨_, List.getElem?_eq_getElem (show i < os.length by omega)⟩
          have hxo := hswf xo (List.mem_of_getElem? hoi)
          have hvi : vo[i]? = some (vo[i]'(by omega)) := List.getElem?_eq_getElem _
          refine sw_sec (bO + 1) (bO + 2) i hvi hoi fun bw cw rw' hvw => ?_
          have hli := hla.at' i hlt
          refine sw_idx i (by omega) ?_
          refine sw_loadAt (.slice (some ⟨bw, 0, none⟩) xo.length cw) (by rw [hvi, hvw]) ?_
          repeat' (first | with_reducible refine sw_op ?_ | with_reducible refine sw_op_ ?_ | with_reducible refine sw_nil ?_ | with_reducible refine sq_then ?_ | with_reducible refine sc_seq ?_ | with_reducible refine sc_region ?_ | with_reducible refine sw_guard_skip ?_ | with_reducible refine sw_guard_skip_ ?_ | with_reducible refine sw_guard_run ?_ | with_reducible refine sc_cond_true ?_ | with_reducible refine sc_cond_false ?_ | with_reducible refine sc_ret ?_ | with_reducible refine sq_then_ret ?_ | with_reducible refine sc_skip ?_ | with_reducible refine sc_block ?_ | with_reducible refine sq_block ?_ | with_reducible refine sq_block_ret ?_ | with_reducible refine sc_exit ?_ | with_reducible refine sq_then_exit ?_ | with_reducible refine sq_block_exit ?_ | with_reducible refine sq_block_past ?_ | with_reducible refine sq_round_ret ?_ | with_reducible refine sq_round_exit ?_ | fail)
          refine sw_idx i (by omega) ?_
          refine sw_last (bL + 1) (bL + 2) (i : Int) (fun hf hg => ?_) fun b2 c2' r2 xs2 hf hg => ?_
          · rw [hf] at hli
            refine sw_loadAt (.slice none 0 0) hli ?_
            repeat' (first | with_reducible refine sw_op ?_ | with_reducible refine sw_op_ ?_ | with_reducible refine sw_nil ?_ | with_reducible refine sq_then ?_ | with_reducible refine sc_seq ?_ | with_reducible refine sc_region ?_ | with_reducible refine sw_guard_skip ?_ | with_reducible refine sw_guard_skip_ ?_ | with_reducible refine sw_guard_run ?_ | with_reducible refine sc_cond_true ?_ | with_reducible refine sc_cond_false ?_ | with_reducible refine sc_ret ?_ | with_reducible refine sq_then_ret ?_ | with_reducible refine sc_skip ?_ | with_reducible refine sc_block ?_ | with_reducible refine sq_block ?_ | with_reducible refine sq_block_ret ?_ | with_reducible refine sc_exit ?_ | with_reducible refine sq_then_exit ?_ | with_reducible refine sq_block_exit ?_ | with_reducible refine sq_block_past ?_ | with_reducible refine sq_round_ret ?_ | with_reducible refine sq_round_exit ?_ | (with_reducible refine sc_cond (fun h => ?_) (fun h => ?_)) <;> (try (exfalso; first | contradiction | omega | exact h Iff.rfl)) | (with_reducible refine sw_guard_split (fun h => ?_) (fun h => ?_)) <;> (try (exfalso; first | contradiction | omega | exact h Iff.rfl)) | (with_reducible refine sw_pick (fun h => ?_) (fun h => ?_)) <;> (try (exfalso; first | contradiction | omega | exact h Iff.rfl)) | fail)
            have hni : (i : Int) ∉ ks := fun hm => by rw [hmem, hg] at hm; cases hm
            have hat3 : AtK ks n2 ((i + 1 : Nat) : Int) := hat.miss hni
            have hnow : s5.now i = xo := by rw [h5n i (by omega), hmiss i (by omega) hni, Int.toNat_natCast, hoi]; rfl
            -- (bO + 2): the key of what is wanted, xo: its bytes, n2: how far the keys are
            have hwx : SecWf (xo) := hxo
            have hlk : s5.looks i = 0 := Dk.looks_ok h5d (by omega) (by omega)
            refine sw_call (dRead_ok p s5 i hlk) ?_
            rintro _ _ ⟨bx, rfl, rfl⟩
            rw [hnow]
            repeat' (first | with_reducible refine sw_op ?_ | with_reducible refine sw_op_ ?_ | with_reducible refine sw_nil ?_ | with_reducible refine sq_then ?_ | with_reducible refine sc_seq ?_ | with_reducible refine sc_region ?_ | with_reducible refine sw_guard_skip ?_ | with_reducible refine sw_guard_skip_ ?_ | with_reducible refine sw_guard_run ?_ | with_reducible refine sc_cond_true ?_ | with_reducible refine sc_cond_false ?_ | with_reducible refine sc_ret ?_ | with_reducible refine sq_then_ret ?_ | with_reducible refine sc_skip ?_ | with_reducible refine sc_block ?_ | with_reducible refine sq_block ?_ | with_reducible refine sq_block_ret ?_ | with_reducible refine sc_exit ?_ | with_reducible refine sq_then_exit ?_ | with_reducible refine sq_block_exit ?_ | with_reducible refine sq_block_past ?_ | with_reducible refine sq_round_ret ?_ | with_reducible refine sq_round_exit ?_ | (with_reducible refine sc_cond (fun h => ?_) (fun h => ?_)) <;> (try (exfalso; first | contradiction | omega | exact h Iff.rfl)) | (with_reducible refine sw_guard_split (fun h => ?_) (fun h => ?_)) <;> (try (exfalso; first | contradiction | omega | exact h Iff.rfl)) | (with_reducible refine sw_pick (fun h => ?_) (fun h => ?_)) <;> (try (exfalso; first | contradiction | omega | exact h Iff.rfl)) | fail)
            refine sw_call (bEqual_ok bx (bO + 2) _ _ _ _ 512 512 _ _ (xo) (xo) reads_row0 reads_irow hwx.len rfl hwx.byte hwx.byte) ?_
            rintro _ _ ⟨rfl, rfl⟩
            repeat' (first | with_reducible refine sw_in (by omega) ?_ | with_reducible refine sw_op ?_ | with_reducible refine sw_op_ ?_ | with_reducible refine sw_nil ?_ | with_reducible refine sq_then ?_ | with_reducible refine sc_seq ?_ | with_reducible refine sc_region ?_ | with_reducible refine sw_guard_skip ?_ | with_reducible refine sw_guard_skip_ ?_ | with_reducible refine sw_guard_run ?_ | with_reducible refine sc_cond_true ?_ | with_reducible refine sc_cond_false ?_ | with_reducible refine sc_ret ?_ | with_reducible refine sq_then_ret ?_ | with_reducible refine sc_skip ?_ | with_reducible refine sc_block ?_ | with_reducible refine sq_block ?_ | with_reducible refine sq_block_ret ?_ | with_reducible refine sc_exit ?_ | with_reducible refine sq_then_exit ?_ | with_reducible refine sq_block_exit ?_ | with_reducible refine sq_block_past ?_ | with_reducible refine sq_round_ret ?_ | with_reducible refine sq_round_exit ?_ | (with_reducible refine sc_cond (fun h => ?_) (fun h => ?_)) <;> (try (exfalso; first | contradiction | omega | exact h Iff.rfl)) | (with_reducible refine sw_guard_split (fun h => ?_) (fun h => ?_)) <;> (try (exfalso; first | contradiction | omega | exact h Iff.rfl)) | (with_reducible refine sw_pick (fun h => ?_) (fun h => ?_)) <;> (try (exfalso; first | contradiction | omega | exact h Iff.rfl)) | fail)
            refine sq_round ⟨(i + 1, n2), ⟨hlt, by show n2 ≤ i + 1; omega⟩, hat3⟩ ?_ ?_ ?_
            · show m - (i + 1) < m - i
              omega
            · repeat' (first | exact says_nil | refine says_cons rfl ?_ | refine says_cons (by simp) ?_)
            · repeat' (first | with_reducible exact Ent.refl _ | with_reducible refine Ent.take_eq ?_ ?_ | rfl | with_reducible refine Ent.trans (Ent.drop _ _) ?_)
          · rw [hf] at hli
            have hwx2 := hdwf _ _ hg
            have hxl := hwx2.len
            refine sw_loadAt (.slice (some ⟨b2, 0, none⟩) xs2.length c2') hli ?_
            have him : (i : Int) ∈ ks := by rw [hmem, hg]; rfl
            obtain ⟨hkn2, hat3⟩ := hat.hit hnd hle him
            have hat3 : AtK ks (n2 + 1) ((i + 1 : Nat) : Int) := hat3
            have hh := hhit n2 i hkn2
            rw [hg, Int.toNat_natCast] at hh
            repeat' (first | with_reducible refine sw_in (by omega) ?_ | with_reducible refine sw_op ?_ | with_reducible refine sw_op_ ?_ | with_reducible refine sw_nil ?_ | with_reducible refine sq_then ?_ | with_reducible refine sc_seq ?_ | with_reducible refine sc_region ?_ | with_reducible refine sw_guard_skip ?_ | with_reducible refine sw_guard_skip_ ?_ | with_reducible refine sw_guard_run ?_ | with_reducible refine sc_cond_true ?_ | with_reducible refine sc_cond_false ?_ | with_reducible refine sc_ret ?_ | with_reducible refine sq_then_ret ?_ | with_reducible refine sc_skip ?_ | with_reducible refine sc_block ?_ | with_reducible refine sq_block ?_ | with_reducible refine sq_block_ret ?_ | with_reducible refine sc_exit ?_ | with_reducible refine sq_then_exit ?_ | with_reducible refine sq_block_exit ?_ | with_reducible refine sq_block_past ?_ | with_reducible refine sq_round_ret ?_ | with_reducible refine sq_round_exit ?_ | (with_reducible refine sc_cond (fun h => ?_) (fun h => ?_)) <;> (try (exfalso; first | contradiction | omega | exact h Iff.rfl)) | (with_reducible refine sw_guard_split (fun h => ?_) (fun h => ?_)) <;> (try (exfalso; first | contradiction | omega | exact h Iff.rfl)) | (with_reducible refine sw_pick (fun h => ?_) (fun h => ?_)) <;> (try (exfalso; first | contradiction | omega | exact h Iff.rfl)) | fail)
            · have hib : n2 < bs.length := by omega
              obtain ⟨ab, ao, rfl⟩ := hkn (by omega)
              refine sw_index (by omega) ?_
              have hbv : (bs.map Value.bool)[n2]? = some (.bool bs[n2]) := by rw [List.getElem?_map, List.getElem?_eq_getElem hib]; rfl
              have hoff : ao + (n2 : Int).toNat * 1 = ao + n2 := by omega
              have hrd : Reads (ro W) (some ⟨ab, ao, none⟩) (bs.map Value.bool) := reads_ro hkr
              repeat' (first | with_reducible refine sw_op ?_ | with_reducible refine sw_op_ ?_ | with_reducible refine sw_nil ?_ | with_reducible refine sq_then ?_ | with_reducible refine sc_seq ?_ | with_reducible refine sc_region ?_ | with_reducible refine sw_guard_skip ?_ | with_reducible refine sw_guard_skip_ ?_ | with_reducible refine sw_guard_run ?_ | with_reducible refine sc_cond_true ?_ | with_reducible refine sc_cond_false ?_ | with_reducible refine sc_ret ?_ | with_reducible refine sq_then_ret ?_ | with_reducible refine sc_skip ?_ | with_reducible refine sc_block ?_ | with_reducible refine sq_block ?_ | with_reducible refine sq_block_ret ?_ | with_reducible refine sc_exit ?_ | with_reducible refine sq_then_exit ?_ | with_reducible refine sq_block_exit ?_ | with_reducible refine sq_block_past ?_ | with_reducible refine sq_round_ret ?_ | with_reducible refine sq_round_exit ?_ | fail)
              refine sw_load_rd 0 n2 (.bool bs[n2]) hrd hbv hoff ?_
              repeat' (first | with_reducible refine sw_in (by omega) ?_ | with_reducible refine sw_op ?_ | with_reducible refine sw_op_ ?_ | with_reducible refine sw_nil ?_ | with_reducible refine sq_then ?_ | with_reducible refine sc_seq ?_ | with_reducible refine sc_region ?_ | with_reducible refine sw_guard_skip ?_ | with_reducible refine sw_guard_skip_ ?_ | with_reducible refine sw_guard_run ?_ | with_reducible refine sc_cond_true ?_ | with_reducible refine sc_cond_false ?_ | with_reducible refine sc_ret ?_ | with_reducible refine sq_then_ret ?_ | with_reducible refine sc_skip ?_ | with_reducible refine sc_block ?_ | with_reducible refine sq_block ?_ | with_reducible refine sq_block_ret ?_ | with_reducible refine sc_exit ?_ | with_reducible refine sq_then_exit ?_ | with_reducible refine sq_block_exit ?_ | with_reducible refine sq_block_past ?_ | with_reducible refine sq_round_ret ?_ | with_reducible refine sq_round_exit ?_ | (with_reducible refine sc_cond (fun h => ?_) (fun h => ?_)) <;> (try (exfalso; first | contradiction | omega | exact h Iff.rfl)) | (with_reducible refine sw_guard_split (fun h => ?_) (fun h => ?_)) <;> (try (exfalso; first | contradiction | omega | exact h Iff.rfl)) | (with_reducible refine sw_pick (fun h => ?_) (fun h => ?_)) <;> (try (exfalso; first | contradiction | omega | exact h Iff.rfl)) | fail)
              · refine sw_idx i (by omega) ?_
                refine sw_loadAt (.slice (some ⟨b2, 0, none⟩) xs2.length c2') hli ?_
                repeat' (first | with_reducible refine sw_in (by omega) ?_ | with_reducible refine sw_op ?_ | with_reducible refine sw_op_ ?_ | with_reducible refine sw_nil ?_ | with_reducible refine sq_then ?_ | with_reducible refine sc_seq ?_ | with_reducible refine sc_region ?_ | with_reducible refine sw_guard_skip ?_ | with_reducible refine sw_guard_skip_ ?_ | with_reducible refine sw_guard_run ?_ | with_reducible refine sc_cond_true ?_ | with_reducible refine sc_cond_false ?_ | with_reducible refine sc_ret ?_ | with_reducible refine sq_then_ret ?_ | with_reducible refine sc_skip ?_ | with_reducible refine sc_block ?_ | with_reducible refine sq_block ?_ | with_reducible refine sq_block_ret ?_ | with_reducible refine sc_exit ?_ | with_reducible refine sq_then_exit ?_ | with_reducible refine sq_block_exit ?_ | with_reducible refine sq_block_past ?_ | with_reducible refine sq_round_ret ?_ | with_reducible refine sq_round_exit ?_ | (with_reducible refine sc_cond (fun h => ?_) (fun h => ?_)) <;> (try (exfalso; first | contradiction | omega | exact h Iff.rfl)) | (with_reducible refine sw_guard_split (fun h => ?_) (fun h => ?_)) <;> (try (exfalso; first | contradiction | omega | exact h Iff.rfl)) | (with_reducible refine sw_pick (fun h => ?_) (fun h => ?_)) <;> (try (exfalso; first | contradiction | omega | exact h Iff.rfl)) | fail)
                have hnow : s5.now i = xs2 := by rw [h5n i (by omega), Int.toNat_natCast, hh, if_pos (by rw [List.getElem?_eq_getElem hib]; simpa using h)]; rfl
                -- (bL + 2): the key of what is wanted, xs2: its bytes, (n2 + 1): how far the keys are
                have hwx : SecWf (xs2) := hwx2
                have hlk : s5.looks i = 0 := Dk.looks_ok h5d (by omega) (by omega)
                refine sw_call (dRead_ok p s5 i hlk) ?_
                rintro _ _ ⟨bx, rfl, rfl⟩
                rw [hnow]
                repeat' (first | with_reducible refine sw_op ?_ | with_reducible refine sw_op_ ?_ | with_reducible refine sw_nil ?_ | with_reducible refine sq_then ?_ | with_reducible refine sc_seq ?_ | with_reducible refine sc_region ?_ | with_reducible refine sw_guard_skip ?_ | with_reducible refine sw_guard_skip_ ?_ | with_reducible refine sw_guard_run ?_ | with_reducible refine sc_cond_true ?_ | with_reducible refine sc_cond_false ?_ | with_reducible refine sc_ret ?_ | with_reducible refine sq_then_ret ?_ | with_reducible refine sc_skip ?_ | with_reducible refine sc_block ?_ | with_reducible refine sq_block ?_ | with_reducible refine sq_block_ret ?_ | with_reducible refine sc_exit ?_ | with_reducible refine sq_then_exit ?_ | with_reducible refine sq_block_exit ?_ | with_reducible refine sq_block_past ?_ | with_reducible refine sq_round_ret ?_ | with_reducible refine sq_round_exit ?_ | (with_reducible refine sc_cond (fun h => ?_) (fun h => ?_)) <;> (try (exfalso; first | contradiction | omega | exact h Iff.rfl)) | (with_reducible refine sw_guard_split (fun h => ?_) (fun h => ?_)) <;> (try (exfalso; first | contradiction | omega | exact h Iff.rfl)) | (with_reducible refine sw_pick (fun h => ?_) (fun h => ?_)) <;> (try (exfalso; first | contradiction | omega | exact h Iff.rfl)) | fail)
                refine sw_call (bEqual_ok bx (bL + 2) _ _ _ _ 512 512 _ _ (xs2) (xs2) reads_row0 reads_irow hwx.len rfl hwx.byte hwx.byte) ?_
                rintro _ _ ⟨rfl, rfl⟩
                repeat' (first | with_reducible refine sw_in (by omega) ?_ | with_reducible refine sw_op ?_ | with_reducible refine sw_op_ ?_ | with_reducible refine sw_nil ?_ | with_reducible refine sq_then ?_ | with_reducible refine sc_seq ?_ | with_reducible refine sc_region ?_ | with_reducible refine sw_guard_skip ?_ | with_reducible refine sw_guard_skip_ ?_ | with_reducible refine sw_guard_run ?_ | with_reducible refine sc_cond_true ?_ | with_reducible refine sc_cond_false ?_ | with_reducible refine sc_ret ?_ | with_reducible refine sq_then_ret ?_ | with_reducible refine sc_skip ?_ | with_reducible refine sc_block ?_ | with_reducible refine sq_block ?_ | with_reducible refine sq_block_ret ?_ | with_reducible refine sc_exit ?_ | with_reducible refine sq_then_exit ?_ | with_reducible refine sq_block_exit ?_ | with_reducible refine sq_block_past ?_ | with_reducible refine sq_round_ret ?_ | with_reducible refine sq_round_exit ?_ | (with_reducible refine sc_cond (fun h => ?_) (fun h => ?_)) <;> (try (exfalso; first | contradiction | omega | exact h Iff.rfl)) | (with_reducible refine sw_guard_split (fun h => ?_) (fun h => ?_)) <;> (try (exfalso; first | contradiction | omega | exact h Iff.rfl)) | (with_reducible refine sw_pick (fun h => ?_) (fun h => ?_)) <;> (try (exfalso; first | contradiction | omega | exact h Iff.rfl)) | fail)
                refine sq_round ⟨(i + 1, (n2 + 1)), ⟨hlt, by show (n2 + 1) ≤ i + 1; omega⟩, hat3⟩ ?_ ?_ ?_
                · show m - (i + 1) < m - i
                  omega
                · repeat' (first | exact says_nil | refine says_cons rfl ?_ | refine says_cons (by simp) ?_)
                · repeat' (first | with_reducible exact Ent.refl _ | with_reducible refine Ent.take_eq ?_ ?_ | rfl | with_reducible refine Ent.trans (Ent.drop _ _) ?_)
              · have hnow : s5.now i = xo := by rw [h5n i (by omega), Int.toNat_natCast, hh, if_neg (by rw [List.getElem?_eq_getElem hib]; simpa using h), hoi]; rfl
                -- (bO + 2): the key of what is wanted, xo: its bytes, (n2 + 1): how far the keys are
                have hwx : SecWf (xo) := hxo
                have hlk : s5.looks i = 0 := Dk.looks_ok h5d (by omega) (by omega)
                refine sw_call (dRead_ok p s5 i hlk) ?_
                rintro _ _ ⟨bx, rfl, rfl⟩
                rw [hnow]
                repeat' (first | with_reducible refine sw_op ?_ | with_reducible refine sw_op_ ?_ | with_reducible refine sw_nil ?_ | with_reducible refine sq_then ?_ | with_reducible refine sc_seq ?_ | with_reducible refine sc_region ?_ | with_reducible refine sw_guard_skip ?_ | with_reducible refine sw_guard_skip_ ?_ | with_reducible refine sw_guard_run ?_ | with_reducible refine sc_cond_true ?_ | with_reducible refine sc_cond_false ?_ | with_reducible refine sc_ret ?_ | with_reducible refine sq_then_ret ?_ | with_reducible refine sc_skip ?_ | with_reducible refine sc_block ?_ | with_reducible refine sq_block ?_ | with_reducible refine sq_block_ret ?_ | with_reducible refine sc_exit ?_ | with_reducible refine sq_then_exit ?_ | with_reducible refine sq_block_exit ?_ | with_reducible refine sq_block_past ?_ | with_reducible refine sq_round_ret ?_ | with_reducible refine sq_round_exit ?_ | (with_reducible refine sc_cond (fun h => ?_) (fun h => ?_)) <;> (try (exfalso; first | contradiction | omega | exact h Iff.rfl)) | (with_reducible refine sw_guard_split (fun h => ?_) (fun h => ?_)) <;> (try (exfalso; first | contradiction | omega | exact h Iff.rfl)) | (with_reducible refine sw_pick (fun h => ?_) (fun h => ?_)) <;> (try (exfalso; first | contradiction | omega | exact h Iff.rfl)) | fail)
                refine sw_call (bEqual_ok bx (bO + 2) _ _ _ _ 512 512 _ _ (xo) (xo) reads_row0 reads_irow hwx.len rfl hwx.byte hwx.byte) ?_
                rintro _ _ ⟨rfl, rfl⟩
                repeat' (first | with_reducible refine sw_in (by omega) ?_ | with_reducible refine sw_op ?_ | with_reducible refine sw_op_ ?_ | with_reducible refine sw_nil ?_ | with_reducible refine sq_then ?_ | with_reducible refine sc_seq ?_ | with_reducible refine sc_region ?_ | with_reducible refine sw_guard_skip ?_ | with_reducible refine sw_guard_skip_ ?_ | with_reducible refine sw_guard_run ?_ | with_reducible refine sc_cond_true ?_ | with_reducible refine sc_cond_false ?_ | with_reducible refine sc_ret ?_ | with_reducible refine sq_then_ret ?_ | with_reducible refine sc_skip ?_ | with_reducible refine sc_block ?_ | with_reducible refine sq_block ?_ | with_reducible refine sq_block_ret ?_ | with_reducible refine sc_exit ?_ | with_reducible refine sq_then_exit ?_ | with_reducible refine sq_block_exit ?_ | with_reducible refine sq_block_past ?_ | with_reducible refine sq_round_ret ?_ | with_reducible refine sq_round_exit ?_ | (with_reducible refine sc_cond (fun h => ?_) (fun h => ?_)) <;> (try (exfalso; first | contradiction | omega | exact h Iff.rfl)) | (with_reducible refine sw_guard_split (fun h => ?_) (fun h => ?_)) <;> (try (exfalso; first | contradiction | omega | exact h Iff.rfl)) | (with_reducible refine sw_pick (fun h => ?_) (fun h => ?_)) <;> (try (exfalso; first | contradiction | omega | exact h Iff.rfl)) | fail)
                refine sq_round ⟨(i + 1, (n2 + 1)), ⟨hlt, by show (n2 + 1) ≤ i + 1; omega⟩, hat3⟩ ?_ ?_ ?_
                · show m - (i + 1) < m - i
                  omega
                · repeat' (first | exact says_nil | refine says_cons rfl ?_ | refine says_cons (by simp) ?_)
                · repeat' (first | with_reducible exact Ent.refl _ | with_reducible refine Ent.take_eq ?_ ?_ | rfl | with_reducible refine Ent.trans (Ent.drop _ _) ?_)
            · repeat' (first | with_reducible refine sw_in (by omega) ?_ | with_reducible refine sw_op ?_ | with_reducible refine sw_op_ ?_ | with_reducible refine sw_nil ?_ | with_reducible refine sq_then ?_ | with_reducible refine sc_seq ?_ | with_reducible refine sc_region ?_ | with_reducible refine sw_guard_skip ?_ | with_reducible refine sw_guard_skip_ ?_ | with_reducible refine sw_guard_run ?_ | with_reducible refine sc_cond_true ?_ | with_reducible refine sc_cond_false ?_ | with_reducible refine sc_ret ?_ | with_reducible refine sq_then_ret ?_ | with_reducible refine sc_skip ?_ | with_reducible refine sc_block ?_ | with_reducible refine sq_block ?_ | with_reducible refine sq_block_ret ?_ | with_reducible refine sc_exit ?_ | with_reducible refine sq_then_exit ?_ | with_reducible refine sq_block_exit ?_ | with_reducible refine sq_block_past ?_ | with_reducible refine sq_round_ret ?_ | with_reducible refine sq_round_exit ?_ | (with_reducible refine sc_cond (fun h => ?_) (fun h => ?_)) <;> (try (exfalso; first | contradiction | omega | exact h Iff.rfl)) | (with_reducible refine sw_guard_split (fun h => ?_) (fun h => ?_)) <;> (try (exfalso; first | contradiction | omega | exact h Iff.rfl)) | (with_reducible refine sw_pick (fun h => ?_) (fun h => ?_)) <;> (try (exfalso; first | contradiction | omega | exact h Iff.rfl)) | fail)
              have hnow : s5.now i = xo := by rw [h5n i (by omega), Int.toNat_natCast, hh, if_neg (by rw [List.getElem?_eq_none (by omega)]; simp), hoi]; rfl
              -- (bO + 2): the key of what is wanted, xo: its bytes, (n2 + 1): how far the keys are
              have hwx : SecWf (xo) := hxo
              have hlk : s5.looks i = 0 := Dk.looks_ok h5d (by omega) (by omega)
              refine sw_call (dRead_ok p s5 i hlk) ?_
              rintro _ _ ⟨bx, rfl, rfl⟩
              rw [hnow]
              repeat' (first | with_reducible refine sw_op ?_ | with_reducible refine sw_op_ ?_ | with_reducible refine sw_nil ?_ | with_reducible refine sq_then ?_ | with_reducible refine sc_seq ?_ | with_reducible refine sc_region ?_ | with_reducible refine sw_guard_skip ?_ | with_reducible refine sw_guard_skip_ ?_ | with_reducible refine sw_guard_run ?_ | with_reducible refine sc_cond_true ?_ | with_reducible refine sc_cond_false ?_ | with_reducible refine sc_ret ?_ | with_reducible refine sq_then_ret ?_ | with_reducible refine sc_skip ?_ | with_reducible refine sc_block ?_ | with_reducible refine sq_block ?_ | with_reducible refine sq_block_ret ?_ | with_reducible refine sc_exit ?_ | with_reducible refine sq_then_exit ?_ | with_reducible refine sq_block_exit ?_ | with_reducible refine sq_block_past ?_ | with_reducible refine sq_round_ret ?_ | with_reducible refine sq_round_exit ?_ | (with_reducible refine sc_cond (fun h => ?_) (fun h => ?_)) <;> (try (exfalso; first | contradiction | omega | exact h Iff.rfl)) | (with_reducible refine sw_guard_split (fun h => ?_) (fun h => ?_)) <;> (try (exfalso; first | contradiction | omega | exact h Iff.rfl)) | (with_reducible refine sw_pick (fun h => ?_) (fun h => ?_)) <;> (try (exfalso; first | contradiction | omega | exact h Iff.rfl)) | fail)
              refine sw_call (bEqual_ok bx (bO + 2) _ _ _ _ 512 512 _ _ (xo) (xo) reads_row0 reads_irow hwx.len rfl hwx.byte hwx.byte) ?_
              rintro _ _ ⟨rfl, rfl⟩
              repeat' (first | with_reducible refine sw_in (by omega) ?_ | with_reducible refine sw_op ?_ | with_reducible refine sw_op_ ?_ | with_reducible refine sw_nil ?_ | with_reducible refine sq_then ?_ | with_reducible refine sc_seq ?_ | with_reducible refine sc_region ?_ | with_reducible refine sw_guard_skip ?_ | with_reducible refine sw_guard_skip_ ?_ | with_reducible refine sw_guard_run ?_ | with_reducible refine sc_cond_true ?_ | with_reducible refine sc_cond_false ?_ | with_reducible refine sc_ret ?_ | with_reducible refine sq_then_ret ?_ | with_reducible refine sc_skip ?_ | with_reducible refine sc_block ?_ | with_reducible refine sq_block ?_ | with_reducible refine sq_block_ret ?_ | with_reducible refine sc_exit ?_ | with_reducible refine sq_then_exit ?_ | with_reducible refine sq_block_exit ?_ | with_reducible refine sq_block_past ?_ | with_reducible refine sq_round_ret ?_ | with_reducible refine sq_round_exit ?_ | (with_reducible refine sc_cond (fun h => ?_) (fun h => ?_)) <;> (try (exfalso; first | contradiction | omega | exact h Iff.rfl)) | (with_reducible refine sw_guard_split (fun h => ?_) (fun h => ?_)) <;> (try (exfalso; first | contradiction | omega | exact h Iff.rfl)) | (with_reducible refine sw_pick (fun h => ?_) (fun h => ?_)) <;> (try (exfalso; first | contradiction | omega | exact h Iff.rfl)) | fail)
              refine sq_round ⟨(i + 1, (n2 + 1)), ⟨hlt, by show (n2 + 1) ≤ i + 1; omega⟩, hat3⟩ ?_ ?_ ?_
              · show m - (i + 1) < m - i
                omega
              · repeat' (first | exact says_nil | refine says_cons rfl ?_ | refine says_cons (by simp) ?_)
              · repeat' (first | with_reducible exact Ent.refl _ | with_reducible refine Ent.take_eq ?_ ?_ | rfl | with_reducible refine Ent.trans (Ent.drop _ _) ?_)
        · refine sq_ret1 Try.results8 ?_
          exact ⟨_, ⟨rfl, F, rfl⟩, by repeat' (first | with_reducible exact Ent.refl _ | with_reducible refine Ent.take_eq ?_ ?_ | rfl | with_reducible refine Ent.trans (Ent.drop _ _) ?_)⟩

theorem oldNew_walk {W : World} {n : Int} {a1 a2 : Option Addr} {os1 os2 : List Op7} {c1 c2 : Nat} {kv : Value} {bs : List Bool} (h1 : Ops7 W a1 os1) (h2 : Ops7 W a2 os2) (l1 : os1.length ≤ maxLen) (l2 : os2.length ≤ maxLen) (hk : RdW W kv (bs.map Value.bool)) :
    Calls Try.prog 8 #[.int .i64 n, .slice a1 os1.length c1, .slice a2 os2.length c2, kv] W fun e W' => e = .returned (.bool true) ∧ Below W.heap.size W W' := call_of_spec W (diskOldNew_ok W n a1 a2 os1 os2 c1 c2 kv bs h1 h2 l1 l2 hk)
end Go.Gsl
