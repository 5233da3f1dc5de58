/- DiskOldNew. -/
import Derived.Test.YtlofcljlmfnhbaaGD
import Derived.Test.YtlofcljlmfnhbaaGK
namespace Go.Gsl
set_option linter.unusedVariables false
open Go.Proofs Go.RowKit

theorem mergeS_none (ss : List (List Int)) : mergeS (fun _ => none) ss = ss := by
  refine List.ext_getElem? fun j => ?_
  unfold mergeS; rw [List.getElem?_mapIdx]
  cases ss[j]? <;> rfl
theorem mergeS_put {g : Int → Option (List Int)} {ss : List (List Int)} {a : Int} {xs : List Int} (h0 : 0 ≤ a) (h1 : a < ss.length) :
    mergeS (fun j => if j = a then some xs else g j) ss = (mergeS g ss).set a.toNat xs := by
  refine List.ext_getElem? fun j => ?_
  unfold mergeS
  rw [List.getElem?_set, List.getElem?_mapIdx, List.getElem?_mapIdx, List.length_mapIdx]
  by_cases hj : a.toNat = j
  · rw [if_pos hj, if_pos (by omega), List.getElem?_eq_getElem (show j < ss.length by omega)]
    have e : (j : Int) = a := by omega
    simp [e]
  · rw [if_neg hj]
    have e : (j : Int) ≠ a := by omega
    simp [e]

/-- a sector that lies for ever, whatever its slice's capacity -/
def Sc (v : Value) (xs : List Int) : HProp := fun h => ∃ b c r, v = .slice (some ⟨b, 0, none⟩) xs.length c ∧ imm b (.cells (xs.map (Value.int .u8) ++ r).toArray 5 (0, 0)) h
def Scs (vs : List Value) (ss : List (List Int)) : HProp := fun h => ∀ (i : Nat) (v : Value) (xs : List Int), vs[i]? = some v → ss[i]? = some xs → Sc v xs h
def ScD (f : Int → Option Value) (g : Int → Option (List Int)) : HProp := fun h => ∀ j, (f j).isSome = (g j).isSome ∧ ∀ v xs, f j = some v → g j = some xs → Sc v xs h
theorem Sec.sc {v : Value} {xs : List Int} {h : Hp} (hs : Sec v xs h) : Sc v xs h := by
  obtain ⟨b, r, hv, hi⟩ := hs
  exact ⟨b, _, r, hv, hi⟩
theorem Sc.left {v : Value} {xs : List Int} {x y : Hp} (h : Sc v xs x) : Sc v xs (hjoin x y) := by
  obtain ⟨b, c, r, hv, hi⟩ := h
  exact ⟨b, c, r, hv, imm_left hi⟩
theorem Sc.right {v : Value} {xs : List Int} {x y : Hp} (hd : hdisj x y) (h : Sc v xs y) : Sc v xs (hjoin x y) := by
  rw [hjoin_comm hd]; exact h.left
theorem Sc.fp {v : Value} {xs : List Int} {h : Hp} (hs : Sc v xs h) : Sc v xs (fpart h) := by
  obtain ⟨b, c, r, hv, hi⟩ := hs
  exact ⟨b, c, r, hv, imm_fpart hi⟩
theorem Sc.of_imm {b c : Nat} {xs : List Int} {r : List Value} {h : Hp} (hl : xs.length = 512) (hi : imm b (.cells (xs.map (Value.int .u8) ++ r).toArray 5 (0, 0)) h) : Sc (.slice (some ⟨b, 0, none⟩) 512 c) xs h := ⟨b, c, r, by rw [hl], hi⟩
theorem Zs.scs {us : List Value} {n : Nat} {h : Hp} (hz : Zs us h) : Scs us (List.replicate n (List.replicate 512 0)) h := fun i v xs hv hx => by
  rw [List.getElem?_replicate] at hx
  split at hx
  · cases hx; exact (hz v (List.mem_of_getElem? hv)).sc
  · cases hx
theorem Scs.add {k b c j : Nat} {vs : List Value} {ss : List (List Int)} {xs : List Int} {r : List Value} {F : List Res} (hl : xs.length = 512) :
    Ent ((k, Scs vs ss) :: (b, imm b (.cells (xs.map (Value.int .u8) ++ r).toArray 5 (0, 0))) :: F) ((k, Scs (vs.set j (.slice (some ⟨b, 0, none⟩) 512 c)) (ss.set j xs)) :: F) :=
  Ent.join fun x y hd hx hy i u ys hu hz => by
    rw [List.getElem?_set] at hu hz
    split at hu
    · rename_i e
      rw [if_pos e] at hz
      split at hu
      · split at hz
        · cases hu; cases hz; exact (Sc.of_imm hl hy).right hd
        · cases hz
      · cases hu
    · rename_i e
      rw [if_neg e] at hz
      exact (hx i u ys hu hz).left
theorem ScD.add {k b c : Nat} {f : Int → Option Value} {g : Int → Option (List Int)} {a : Int} {xs : List Int} {r : List Value} {F : List Res} (hl : xs.length = 512) :
    Ent ((k, ScD f g) :: (b, imm b (.cells (xs.map (Value.int .u8) ++ r).toArray 5 (0, 0))) :: F) ((k, ScD (mput f a (.slice (some ⟨b, 0, none⟩) 512 c)) (fun j => if j = a then some xs else g j)) :: F) :=
  Ent.join fun x y hd hx hy j => by
    obtain ⟨e1, e2⟩ := hx j
    simp only [mput]
    by_cases hj : j = a
    · simp only [hj, if_true]
      exact ⟨rfl, fun u ys hu hy2 => by cases hu; cases hy2; exact (Sc.of_imm hl hy).right hd⟩
    · simp only [hj, if_false]
      exact ⟨e1, fun u ys hu hz => (e2 u ys hu hz).left⟩

/-- the last of the sectors, by their places -/
structure Last (f : Int → Option Value) (vl : List Value) (n : Nat) : Prop where
  len : vl.length = n
  at' : ∀ i : Nat, i < n → vl[i]? = some ((f i).getD (.slice none 0 0))
theorem Last.put {f : Int → Option Value} {vl : List Value} {n : Nat} {a : Int} {v : Value} (h : Last f vl n) (h0 : 0 ≤ a) (h1 : a < n) : Last (mput f a v) (vl.set a.toNat v) n where
  len := by rw [List.length_set]; exact h.len
  at' := fun i hi => by
    rw [List.getElem?_set]
    unfold mput
    by_cases hj : a.toNat = i
    · rw [if_pos hj, if_pos (by have := h.len; omega)]
      have e : (i : Int) = a := by omega
      simp [e]
    · rw [if_neg hj, h.at' i hi]
      have e : (i : Int) ≠ a := by omega
      simp [e]
section
variable {P : Program} {ops : List Oper} {Q : Cont} {n : Nat} {w0 : World} {l : List Oper} {e : Env} {Rs F : List Res}
/-- a sector of the row -/
theorem sw_sec (k k' : Nat) {vs : List Value} {ss : List (List Int)} [t : Take Rs k (Scs vs ss) F] (i : Nat) {v : Value} {xs : List Int} (hv : vs[i]? = some v) (hx : ss[i]? = some xs)
    (q : ∀ b c r, v = .slice (some ⟨b, 0, none⟩) xs.length c → SW P ops Q n w0 l e ((k', imm b (.cells (xs.map (Value.int .u8) ++ r).toArray 5 (0, 0))) :: Rs)) : SW P ops Q n w0 l e Rs := by
  intro w hw
  obtain ⟨⟨b, c, r⟩, h1, h2⟩ := (hw.ent (Ent.dup_take (k := k) (k' := k') (r' := Sc v xs) fun _ hp => (hp i v xs hv hx).fp)).opn (α := Nat × Nat × List Value) (φ := fun y => v = .slice (some ⟨y.1, 0, none⟩) xs.length y.2.1)
    (p := fun y => imm y.1 (.cells (xs.map (Value.int .u8) ++ y.2.2).toArray 5 (0, 0))) (by rintro y ⟨b, c, r, hv, hi⟩; exact ⟨(b, c, r), hv, hi⟩)
  exact q b c r h1 w h2
/-- whether a sector was written since -/
theorem sw_last (k k' : Nat) {f : Int → Option Value} {g : Int → Option (List Int)} [t : Take Rs k (ScD f g) F] (i : Int) (h0 : f i = none → g i = none → SW P ops Q n w0 l e Rs)
    (q : ∀ b c r xs, f i = some (.slice (some ⟨b, 0, none⟩) xs.length c) → g i = some xs → SW P ops Q n w0 l e ((k', imm b (.cells (xs.map (Value.int .u8) ++ r).toArray 5 (0, 0))) :: Rs)) : SW P ops Q n w0 l e Rs := by
  cases hg : g i with
  | none =>
    intro w hw
    obtain ⟨⟨⟩, h1, h2⟩ := (hw.ent t.ent).opn (α := Unit) (φ := fun _ => f i = none) (p := fun _ => ScD f g) (by
      intro y hy
      refine ⟨(), ?_, hy⟩
      have := (hy i).1
      rw [hg] at this
      cases hf : f i with
      | none => rfl
      | some v => rw [hf] at this; cases this)
    exact h0 h1 hg w hw
  | some xs =>
    intro w hw
    obtain ⟨⟨b, c, r⟩, h1, h2⟩ := (hw.ent (Ent.dup_take (k := k) (k' := k') (r' := fun h => ∃ v, f i = some v ∧ Sc v xs h) fun _ hp => by
        obtain ⟨h1, h2⟩ := hp i
        rw [hg] at h1
        obtain ⟨v, hv⟩ := Option.isSome_iff_exists.1 h1
        exact ⟨v, hv, (h2 v xs hv hg).fp⟩)).opn (α := Nat × Nat × List Value) (φ := fun y => f i = some (.slice (some ⟨y.1, 0, none⟩) xs.length y.2.1))
      (p := fun y => imm y.1 (.cells (xs.map (Value.int .u8) ++ y.2.2).toArray 5 (0, 0))) (by rintro y ⟨v, hv, b, c, r, rfl, hi⟩; exact ⟨(b, c, r), hv, hi⟩)
    exact q b c r xs h1 hg w h2
end
theorem reads_irow {b : Nat} {xs r : List Value} {t : TypeId} {fr : Nat × Nat} : Reads (imm b (.cells (xs ++ r).toArray t fr)) (some ⟨b, 0, none⟩) xs :=
  reads_imm fun j v hj => by rw [Nat.zero_add, List.getElem?_append_left (List.getElem?_eq_some_iff.1 hj).1]; exact hj

abbrev rowB (b : Nat) (vs : List Value) : HProp := pts b (.cells vs.toArray 67 (0, 0))
theorem Zs.add {k b2 : Nat} {us : List Value} {F : List Res} : Ent ((k, Zs us) :: (b2, imm b2 (.cells (List.replicate 512 (Value.int .u8 0)).toArray 5 (0, 0))) :: F) ((k, Zs (us ++ [Value.slice (some ⟨b2, 0, none⟩) 512 512])) :: F) :=
  Ent.join fun x y hd hx hy v hv => by
    rcases List.mem_append.1 hv with h | h
    · exact (hx v h).left
    · rw [List.mem_singleton.1 h]
      refine Sec.right hd ⟨b2, [], by rw [List.length_replicate]; rfl, ?_⟩
      rw [List.map_replicate, List.append_nil]
      exact hy
theorem set_next {us : List Value} {m : Nat} {v z : Value} (h : us.length < m) : (us ++ List.replicate (m - us.length) z).set us.length v = (us ++ [v]) ++ List.replicate (m - (us ++ [v]).length) z := by
  rw [show m - us.length = (m - (us.length + 1)) + 1 by omega, List.replicate_succ, List.set_append_right _ _ (Nat.le_refl _), Nat.sub_self, List.set_cons_zero, List.append_assoc, List.length_append]; rfl
abbrev secR (b : Nat) (xs : List Int) (r : List Value) : Obj := .cells (xs.map (Value.int .u8) ++ r).toArray 5 (0, 0)

end Go.Gsl
