/- A line's values. -/
import Derived.Test.YtjfieigjicbldaaDoorGV
import Derived.Test.YtjfieigjicbldaaDoorGE
import Derived.Test.YtjfieigjicbldaaDoorGN
import Derived.Test.YtjfieigjicbldaaDoorGB
import Derived.KernelRfl
namespace Go.Gsl
set_option linter.unusedVariables false
open Go.Proofs

/-- a word of a row -/
def tk (l : List Tok) (i : Nat) : Tok := l.getD i ⟨[], false⟩
theorem tokC_at : ∀ (l : List Tok) (i : Nat), i < l.length → (tokC l)[i * 2]? = some (.string (sB (tk l i).s)) ∧ (tokC l)[i * 2 + 1]? = some (.bool (tk l i).t)
  | x :: l, 0, _ => ⟨rfl, rfl⟩
  | x :: l, i + 1, h => by
    have := tokC_at l i (by simp only [List.length_cons] at h; omega)
    have e1 : tokC (x :: l) = .string (sB x.s) :: .bool x.t :: tokC l := rfl
    rw [e1, show (i + 1) * 2 = i * 2 + 1 + 1 by omega]
    exact this
theorem tokC_s (l : List Tok) (t : List Value) (i : Nat) (h : i < l.length) : (tokC l ++ t)[0 + i * 2 + 0]? = some (.string (sB (tk l i).s)) := by
  have h1 := tokC_at l i h
  rw [List.getElem?_append_left (by rw [tokC_len]; omega)]
  simpa using h1.1
theorem tokC_t (l : List Tok) (t : List Value) (i : Nat) (h : i < l.length) : (tokC l ++ t)[0 + i * 2 + 1]? = some (.bool (tk l i).t) := by
  have h1 := tokC_at l i h
  rw [List.getElem?_append_left (by rw [tokC_len]; omega)]
  simpa using h1.2

theorem form_ok (s cs : Bs) (h : formOf s = some cs) : (∀ i, i < cs.length → iv (cs.getD i 0) < 128) ∧ cs.length ≤ 7 := by
  have key : ∀ c0 ∈ ([[110, 110, 110, 110, 110, 110, 110], [110, 119], [110, 116], [110, 116, 116], [110], [], [116], [107], [110, 107]] : List Bs), (∀ i, i < c0.length → iv (c0.getD i 0) < 128) ∧ c0.length ≤ 7 := by decide +kernel
  refine key cs ?_
  unfold formOf at h
  by_cases h1 : s = wStore
  · rw [if_pos h1] at h; obtain rfl := Option.some.inj h; decide +kernel
  rw [if_neg h1] at h
  by_cases h2 : s = wBegin
  · rw [if_pos h2] at h; obtain rfl := Option.some.inj h; decide +kernel
  rw [if_neg h2] at h
  by_cases h3 : s = wGet
  · rw [if_pos h3] at h; obtain rfl := Option.some.inj h; decide +kernel
  rw [if_neg h3] at h
  by_cases h4 : s = wDelete
  · rw [if_pos h4] at h; obtain rfl := Option.some.inj h; decide +kernel
  rw [if_neg h4] at h
  by_cases h5 : s = wPut
  · rw [if_pos h5] at h; obtain rfl := Option.some.inj h; decide +kernel
  rw [if_neg h5] at h
  by_cases h6 : s = wScan
  · rw [if_pos h6] at h; obtain rfl := Option.some.inj h; decide +kernel
  rw [if_neg h6] at h
  by_cases h7 : s = wCommit
  · rw [if_pos h7] at h; obtain rfl := Option.some.inj h; decide +kernel
  rw [if_neg h7] at h
  by_cases h8 : s = wAbort
  · rw [if_pos h8] at h; obtain rfl := Option.some.inj h; decide +kernel
  rw [if_neg h8] at h
  by_cases h9 : s = wStep
  · rw [if_pos h9] at h; obtain rfl := Option.some.inj h; decide +kernel
  rw [if_neg h9] at h
  by_cases h10 : s = wPick
  · rw [if_pos h10] at h; obtain rfl := Option.some.inj h; decide +kernel
  rw [if_neg h10] at h
  by_cases h11 : s = wRun
  · rw [if_pos h11] at h; obtain rfl := Option.some.inj h; decide +kernel
  rw [if_neg h11] at h
  by_cases h12 : s = wEpoch
  · rw [if_pos h12] at h; obtain rfl := Option.some.inj h; decide +kernel
  rw [if_neg h12] at h
  by_cases h13 : s = wSave
  · rw [if_pos h13] at h; obtain rfl := Option.some.inj h; decide +kernel
  rw [if_neg h13] at h
  by_cases h14 : s = wForget
  · rw [if_pos h14] at h; obtain rfl := Option.some.inj h; decide +kernel
  rw [if_neg h14] at h
  by_cases h15 : s = wAll
  · rw [if_pos h15] at h; obtain rfl := Option.some.inj h; decide +kernel
  rw [if_neg h15] at h
  by_cases h16 : s = wRestart
  · rw [if_pos h16] at h; obtain rfl := Option.some.inj h; decide +kernel
  rw [if_neg h16] at h
  by_cases h17 : s = wRest
  · rw [if_pos h17] at h; obtain rfl := Option.some.inj h; decide +kernel
  rw [if_neg h17] at h
  by_cases h18 : s = wPrune
  · rw [if_pos h18] at h; obtain rfl := Option.some.inj h; decide +kernel
  rw [if_neg h18] at h
  by_cases h19 : s = wShrink
  · rw [if_pos h19] at h; obtain rfl := Option.some.inj h; decide +kernel
  rw [if_neg h19] at h
  by_cases h20 : s = wCrash
  · rw [if_pos h20] at h; obtain rfl := Option.some.inj h; decide +kernel
  rw [if_neg h20] at h
  by_cases h21 : s = wFuse
  · rw [if_pos h21] at h; obtain rfl := Option.some.inj h; decide +kernel
  rw [if_neg h21] at h
  cases h

theorem kind_ok (c : UInt8) (w : Tok) : kindOk c w = true ↔ (w.t = true ↔ iv c = 116) ∧ (iv c = 119 → w.s = wSnapshot ∨ w.s = wSerial) := by
  unfold kindOk
  obtain ⟨s, t⟩ := w
  simp only
  cases t <;> by_cases h1 : iv c = 116 <;> by_cases h2 : iv c = 119 <;> by_cases h3 : s = wSnapshot <;> by_cases h4 : s = wSerial <;> simp [h1, h2, h3, h4]

/-- the first words of a line are as its form says -/
def okTo (l : List Tok) (cs : Bs) (i : Nat) : Prop := ∀ j, j < i → kindOk (cs.getD j 0) (tk l (j + 1)) = true
theorem okTo_all {w : Tok} {ws : List Tok} {cs : Bs} (hl : ws.length = cs.length) : okTo (w :: ws) cs cs.length ↔ (List.zip cs ws).all (fun p => kindOk p.1 p.2) = true := by
  rw [List.all_eq_true]
  constructor
  · intro h p hp
    obtain ⟨j, hj, he⟩ := List.getElem_of_mem hp
    have h1 : j < cs.length := by simp at hj; omega
    have h2 : j < ws.length := by omega
    have := h j h1
    rw [List.getElem_zip] at he
    rw [← he]
    have e1 : cs.getD j 0 = cs[j] := by rw [List.getD_eq_getElem?_getD, List.getElem?_eq_getElem h1]; rfl
    have e2 : tk (w :: ws) (j + 1) = ws[j] := by unfold tk; rw [List.getD_cons_succ, List.getD_eq_getElem?_getD, List.getElem?_eq_getElem h2]; rfl
    rw [e1, e2] at this
    exact this
  · intro h j h1
    have h2 : j < ws.length := by omega
    have e1 : cs.getD j 0 = cs[j] := by rw [List.getD_eq_getElem?_getD, List.getElem?_eq_getElem h1]; rfl
    have e2 : tk (w :: ws) (j + 1) = ws[j] := by unfold tk; rw [List.getD_cons_succ, List.getD_eq_getElem?_getD, List.getElem?_eq_getElem h2]; rfl
    rw [e1, e2]
    refine h (cs[j], ws[j]) ?_
    refine List.mem_iff_getElem.2 ⟨j, by simp; omega, by rw [List.getElem_zip]⟩
end Go.Gsl

namespace Go.Gsl
set_option linter.unusedVariables false
open Go.Proofs

def strC (l : List Bs) : List Value := l.map fun s => .string (sB s)
/-- what 'fits' answers -/
def fldV (f : Flds) (x : Option (Nat × List Value)) (y z : Option (Nat × Nat × List Value)) : List Value := [bufV f.n.length x, nV f.t.length y, nV f.k.length z]
def FldOk (f : Flds) (x : Option (Nat × List Value)) (y z : Option (Nat × Nat × List Value)) : Prop := (x = none → f.n = []) ∧ NOk 1 (strC f.t) f.t.length y ∧ NOk 1 (boolC f.k) f.k.length z
def fldR (f : Flds) (x : Option (Nat × List Value)) (y z : Option (Nat × Nat × List Value)) (F : List Res) : List Res :=
  oR (vG .i64 3 f.n) (oR (nG 9 (strC f.t)) (oR (nG 4 (boolC f.k)) F z) y) x

set_option maxHeartbeats 4000000 in
theorem sFits_ok (W : World) (hT : Tabs Tryd.prog W) (w : Tok) (ws : List Tok) (b c : Nat) (t : List Value) (hl : (w :: ws).length ≤ 1073741824) (hs : ∀ x ∈ w :: ws, x.s.length ≤ 1073741824) :
    SpecP Tryd.prog 43 [.slice (some ⟨b, 0, none⟩) (w :: ws).length c] [0, b] [ro W, pts b (.cells (tokC (w :: ws) ++ t).toArray 96 (0, 0))]
    (fun F v Rs' => ∃ f x y z, fitsOf (w :: ws) = .ok f ∧ FldOk f x y z ∧ v = .agg (fldV f x y z).toArray ∧ Rs' = fldR f x y z ((0, ro W) :: (b, pts b (.cells (tokC (w :: ws) ++ t).toArray 96 (0, 0))) :: F))
    (fun F v Rs' => ∃ er, fitsOf (w :: ws) = .error er ∧ v = .iface 27 (.int .i64 er) ∧ Rs' = (0, ro W) :: (b, pts b (.cells (tokC (w :: ws) ++ t).toArray 96 (0, 0))) :: F) := by
  have hw0 : tk (w :: ws) 0 = w := rfl
  have hlen : (w :: ws).length = ws.length + 1 := rfl
  have hfit : fitsOf (w :: ws) = (match formOf w.s with
    | none => .error 260
    | some cs =>
      if w.t ∨ ws.length ≠ cs.length ∨ ¬ (List.zip cs ws).all (fun p => kindOk p.1 p.2) then .error 260
      else match addVals ⟨[], [], []⟩ cs ws with
        | none => .error 262
        | some f => .ok f) := rfl
  have hall := fun cs h => okTo_all (w := w) (ws := ws) (cs := cs) h
  have hS := sForm_ok w.s
  have hs0 := tokC_s (w :: ws) t 0 (by omega)
  have ht0 := tokC_t (w :: ws) t 0 (by omega)
  have hsi := tokC_s (w :: ws) t
  have hti := tokC_t (w :: ws) t
  generalize hL : w :: ws = L at *
  rw [hw0] at hs0 ht0
  refine spec_ofP Tryd.func43 rfl Tryd.ntmps43 rfl ?_
  intro w0 F
  repeat' (first | with_reducible (first | refine go1 ?_ | refine sct ?_ | refine scf ?_ | refine sgr ?_) | with_reducible refine sw_alloc fun b2 => ?_ | with_reducible refine sw_indexN 0 ⟨by omega, by omega⟩ ?_ | with_reducible refine sw_loadAt (.string (sB w.s)) hs0 ?_ | ((with_reducible refine sw_callf hS ?_); rintro _ _ ⟨rfl, rfl⟩) | fail)
  cases hf : formOf w.s with
  | none =>
    rw [hf] at hfit
    simp only at hfit
    rw [formV_none hf]
    repeat' (first | with_reducible (first | refine go1 ?_ | refine sct ?_ | refine scf ?_ | refine sgr ?_) | with_reducible refine sw_panic ?_ | with_reducible refine sw_guard_skip_u ?_ | (with_reducible refine sc_cond (fun h => ?_) (fun h => ?_)) <;> (try (exfalso; first | contradiction | omega | exact h Iff.rfl)) | (with_reducible refine sw_guard_split (fun h => ?_) (fun h => ?_)) <;> (try (exfalso; first | contradiction | omega | exact h Iff.rfl)) | (with_reducible refine sw_pick (fun h => ?_) (fun h => ?_)) <;> (try (exfalso; first | contradiction | omega | exact h Iff.rfl)) | fail)
    exact sqx_pan ⟨_, ⟨260, hfit, rfl, rfl⟩, by repeat' (first | with_reducible exact Ent.refl _ | with_reducible refine Ent.take_eq ?_ ?_ | rfl | with_reducible refine Ent.oR ?_ | with_reducible refine Ent.trans (oR.drop _ _ _) ?_ | with_reducible refine Ent.trans (Ent.drop _ _) ?_)⟩
  | some cs =>
    rw [hf] at hfit
    simp only at hfit
    obtain ⟨hasc, hcl⟩ := form_ok _ _ hf
    have hall := hall cs
    rw [formV_of hf]
    repeat' (first | with_reducible refine sw_in (by omega) ?_ | with_reducible (first | refine go1 ?_ | refine sct ?_ | refine scf ?_ | refine sgr ?_) | with_reducible refine sw_indexN 0 ⟨by omega, by omega⟩ ?_ | with_reducible refine sw_loadAt (.bool w.t) ht0 ?_ | with_reducible refine sw_panic ?_ | with_reducible refine sw_rangeS fun r1 => ?_ | with_reducible refine sw_guard_skip_u ?_ | (with_reducible refine sc_cond (fun h => ?_) (fun h => ?_)) <;> (try (exfalso; first | contradiction | omega | exact h Iff.rfl)) | (with_reducible refine sw_guard_split (fun h => ?_) (fun h => ?_)) <;> (try (exfalso; first | contradiction | omega | exact h Iff.rfl)) | (with_reducible refine sw_pick (fun h => ?_) (fun h => ?_)) <;> (try (exfalso; first | contradiction | omega | exact h Iff.rfl)) | fail)
    · exact sqx_pan ⟨_, ⟨260, by rw [hfit, if_pos (.inl (by assumption))], rfl, rfl⟩, by repeat' (first | with_reducible exact Ent.refl _ | with_reducible refine Ent.take_eq ?_ ?_ | rfl | with_reducible refine Ent.oR ?_ | with_reducible refine Ent.trans (oR.drop _ _ _) ?_ | with_reducible refine Ent.trans (Ent.drop _ _) ?_)⟩
    · exact sqx_pan ⟨_, ⟨260, by rw [hfit, if_pos (.inr (.inl (by omega)))], rfl, rfl⟩, by repeat' (first | with_reducible exact Ent.refl _ | with_reducible refine Ent.take_eq ?_ ?_ | rfl | with_reducible refine Ent.oR ?_ | with_reducible refine Ent.trans (oR.drop _ _ _) ?_ | with_reducible refine Ent.trans (Ent.drop _ _) ?_)⟩
    rename_i hx0 hwt
    have hleq : ws.length = cs.length := by omega
    have hall := hall hleq
    clear hx0 h hS hs0 ht0
    refine sc_loop (α := { i : Nat // i ≤ cs.length ∧ okTo L cs i })
      (fun i => [(0, .slice (some ⟨b, 0, none⟩) L.length c), (2, .pointer (some ⟨b2, 0, none⟩)), (3, .string (sB cs)), (37, .pointer (some ⟨r1, 0, none⟩))])
      (fun i => (r1, pts r1 (.stringIter ⟨cs.toArray⟩ i.1)) :: (b2, pts b2 (.cells [Value.slice none 0 0, .slice none 0 0, .slice none 0 0].toArray 88 (0, 0))) :: (0, ro W) :: (b, pts b (.cells (tokC L ++ t).toArray 96 (0, 0))) :: F) (fun i => cs.length - i.1)
      ⟨0, Nat.zero_le _, fun j hj => absurd hj (by omega)⟩ ?_ ?_ ?_
    · repeat' (first | exact says_nil | refine says_cons rfl ?_ | refine says_cons (by simp) ?_)
    · exact Ent.refl _
    rintro ⟨i, hi, hok⟩ e
    simp only [List.cons_append, List.nil_append]
    by_cases hil : i < cs.length
    · obtain ⟨ch, hch⟩ : ∃ ch, cs.getD i 0 = ch := ⟨_, rfl⟩
      have hc : cs[i]? = some ch := by rw [← hch, List.getD_eq_getElem?_getD, List.getElem?_eq_getElem hil]; rfl
      have ha : True → iv ch < 128 := fun _ => by rw [← hch]; exact hasc i hil
      have hsi := hsi (i + 1) (by omega)
      have hti := hti (i + 1) (by omega)
      have hkk := kind_ok ch (tk L (i + 1))
      obtain ⟨⟨zs, zt⟩, hz⟩ : ∃ z, tk L (i + 1) = z := ⟨_, rfl⟩
      rw [hz] at hsi hti hkk
      unfold wSnapshot wSerial at hkk
      simp only at hsi hti hkk
      have hbad : ¬ kindOk ch ⟨zs, zt⟩ = true → fitsOf L = .error 260 := fun hn => by
        rw [hfit, if_pos]
        refine .inr (.inr fun h' => ?_)
        have := (hall.2 h') i hil
        rw [hch, hz] at this
        exact hn this
      have hgood : kindOk ch ⟨zs, zt⟩ = true → okTo L cs (i + 1) := fun hy j hj => by
        rcases Nat.lt_or_ge j i with h | h
        · exact hok j h
        · have : j = i := by omega
          subst this
          rw [hch, hz]; exact hy
      repeat' (first | with_reducible refine sw_in (by omega) ?_ | with_reducible (first | refine go1 ?_ | refine sct ?_ | refine scf ?_ | refine sgr ?_) | with_reducible refine sw_nextS (c := ch) hc (ha trivial) ?_ | with_reducible refine sw_indexN (i + 1) ⟨by omega, by omega⟩ ?_ | with_reducible refine sw_loadAt (.bool zt) hti ?_ | with_reducible refine sw_loadAt (.string (sB zs)) hsi ?_ | with_reducible refine sw_panic ?_ | with_reducible refine sw_guard_skip_u ?_ | (with_reducible refine sc_cond (fun h => ?_) (fun h => ?_)) <;> (try (exfalso; first | contradiction | omega | exact h Iff.rfl)) | (with_reducible refine sw_guard_split (fun h => ?_) (fun h => ?_)) <;> (try (exfalso; first | contradiction | omega | exact h Iff.rfl)) | (with_reducible refine sw_pick (fun h => ?_) (fun h => ?_)) <;> (try (exfalso; first | contradiction | omega | exact h Iff.rfl)) | fail)
      · exact sqx_pan ⟨_, ⟨260, hbad fun hy => by rename_i h; exact h (hkk.1 hy).1, rfl, rfl⟩, by repeat' (first | with_reducible exact Ent.refl _ | with_reducible refine Ent.take_eq ?_ ?_ | rfl | with_reducible refine Ent.oR ?_ | with_reducible refine Ent.trans (oR.drop _ _ _) ?_ | with_reducible refine Ent.trans (Ent.drop _ _) ?_)⟩
      · exact sqx_pan ⟨_, ⟨260, hbad fun hy => by rcases (hkk.1 hy).2 (by assumption) with g | g <;> contradiction, rfl, rfl⟩, by repeat' (first | with_reducible exact Ent.refl _ | with_reducible refine Ent.take_eq ?_ ?_ | rfl | with_reducible refine Ent.oR ?_ | with_reducible refine Ent.trans (oR.drop _ _ _) ?_ | with_reducible refine Ent.trans (Ent.drop _ _) ?_)⟩
      · refine sq_round ⟨i + 1, by omega, hgood (hkk.2 ⟨Classical.not_not.1 (by assumption), fun _ => .inr (Classical.not_not.1 (by assumption))⟩)⟩ (by show cs.length - (i + 1) < cs.length - i; omega) ?_ ?_
        · repeat' (first | exact says_nil | refine says_cons rfl ?_ | refine says_cons (by simp) ?_)
        · repeat' (first | with_reducible exact Ent.refl _ | with_reducible refine Ent.take_eq ?_ ?_ | rfl | with_reducible refine Ent.oR ?_ | with_reducible refine Ent.trans (oR.drop _ _ _) ?_ | with_reducible refine Ent.trans (Ent.drop _ _) ?_)
      · refine sq_round ⟨i + 1, by omega, hgood (hkk.2 ⟨Classical.not_not.1 (by assumption), fun _ => .inl (Classical.not_not.1 (by assumption))⟩)⟩ (by show cs.length - (i + 1) < cs.length - i; omega) ?_ ?_
        · repeat' (first | exact says_nil | refine says_cons rfl ?_ | refine says_cons (by simp) ?_)
        · repeat' (first | with_reducible exact Ent.refl _ | with_reducible refine Ent.take_eq ?_ ?_ | rfl | with_reducible refine Ent.oR ?_ | with_reducible refine Ent.trans (oR.drop _ _ _) ?_ | with_reducible refine Ent.trans (Ent.drop _ _) ?_)
      · refine sq_round ⟨i + 1, by omega, hgood (hkk.2 ⟨Classical.not_not.1 (by assumption), fun h' => absurd h' (by assumption)⟩)⟩ (by show cs.length - (i + 1) < cs.length - i; omega) ?_ ?_
        · repeat' (first | exact says_nil | refine says_cons rfl ?_ | refine says_cons (by simp) ?_)
        · repeat' (first | with_reducible exact Ent.refl _ | with_reducible refine Ent.take_eq ?_ ?_ | rfl | with_reducible refine Ent.oR ?_ | with_reducible refine Ent.trans (oR.drop _ _ _) ?_ | with_reducible refine Ent.trans (Ent.drop _ _) ?_)
    · repeat' (first | with_reducible (first | refine go1 ?_ | refine sct ?_ | refine scf ?_ | refine sgr ?_) | with_reducible refine sw_nextS_end hil ?_ | with_reducible refine sw_alloc fun b7 => ?_ | with_reducible refine sw_rangeS fun r2 => ?_ | fail)
      have hie : i = cs.length := by omega
      rw [hie] at hok
      rw [if_neg (by rintro (h | h | h); exact hwt h; exact h hleq; exact h (hall.1 hok))] at hfit
      refine sc_loop (α := { x : Nat × Flds × Option (Nat × List Value) × Option (Nat × Nat × List Value) × Option (Nat × Nat × List Value) //
          x.1 ≤ cs.length ∧ FldOk x.2.1 x.2.2.1 x.2.2.2.1 x.2.2.2.2 ∧ x.2.1.n.length ≤ x.1 ∧ x.2.1.t.length ≤ x.1 ∧ addVals x.2.1 (cs.drop x.1) (ws.drop x.1) = addVals ⟨[], [], []⟩ cs ws })
        (fun x => [(0, .slice (some ⟨b, 0, none⟩) L.length c), (2, .pointer (some ⟨b2, 0, none⟩)), (7, .pointer (some ⟨b7, 0, none⟩)), (75, .pointer (some ⟨r2, 0, none⟩))])
        (fun x => fldR x.1.2.1 x.1.2.2.1 x.1.2.2.2.1 x.1.2.2.2.2 ((r2, pts r2 (.stringIter ⟨cs.toArray⟩ x.1.1)) :: (b7, pts b7 (.cells (fldV x.1.2.1 x.1.2.2.1 x.1.2.2.2.1 x.1.2.2.2.2).toArray 88 (0, 0))) ::
          (b2, pts b2 (.cells [Value.slice none 0 0, .slice none 0 0, .slice none 0 0].toArray 88 (0, 0))) :: (0, ro W) :: (b, pts b (.cells (tokC L ++ t).toArray 96 (0, 0))) :: F)) (fun x => cs.length - x.1.1)
        ⟨(0, ⟨[], [], []⟩, none, none, none), Nat.zero_le _, ⟨fun _ => rfl, ⟨rfl, fun _ => ⟨rfl, rfl⟩, fun b c t h => by cases h⟩, ⟨rfl, fun _ => ⟨rfl, rfl⟩, fun b c t h => by cases h⟩⟩, Nat.le_refl _, Nat.le_refl _, rfl⟩ ?_ ?_ ?_
      · repeat' (first | exact says_nil | refine says_cons rfl ?_ | refine says_cons (by simp) ?_)
      · show Ent _ ((r2, pts r2 (.stringIter ⟨cs.toArray⟩ 0)) :: (b7, pts b7 (.cells [Value.slice none 0 0, .slice none 0 0, .slice none 0 0].toArray 88 (0, 0))) ::
          (b2, pts b2 (.cells [Value.slice none 0 0, .slice none 0 0, .slice none 0 0].toArray 88 (0, 0))) :: (0, ro W) :: (b, pts b (.cells (tokC L ++ t).toArray 96 (0, 0))) :: F)
        repeat' (first | with_reducible exact Ent.refl _ | with_reducible refine Ent.take_eq ?_ ?_ | rfl | with_reducible refine Ent.oR ?_ | with_reducible refine Ent.trans (oR.drop _ _ _) ?_ | with_reducible refine Ent.trans (Ent.drop _ _) ?_)
      clear hok hi hil hie i e
      rintro ⟨⟨i, ⟨fn, ft, fk⟩, x, y, z⟩, hi, ⟨hx, hy, hz⟩, hn7, ht7, hav⟩ e
      dsimp only at hi hx hy hz hn7 ht7 hav
      simp only [fldV, fldR]
      simp only [List.cons_append, List.nil_append]
      by_cases hil : i < cs.length
      · obtain ⟨ch, hch⟩ : ∃ ch, cs.getD i 0 = ch := ⟨_, rfl⟩
        have hc : cs[i]? = some ch := by rw [← hch, List.getD_eq_getElem?_getD, List.getElem?_eq_getElem hil]; rfl
        have ha : True → iv ch < 128 := fun _ => by rw [← hch]; exact hasc i hil
        have hsi := hsi (i + 1) (by omega)
        obtain ⟨⟨zs, zt⟩, hzz⟩ : ∃ z, tk L (i + 1) = z := ⟨_, rfl⟩
        rw [hzz] at hsi
        simp only at hsi
        have hzl : zs.length ≤ 1073741824 := by
          have h1 : i + 1 < L.length := by omega
          have h2 : tk L (i + 1) ∈ L := by unfold tk; rw [List.getD_eq_getElem?_getD, List.getElem?_eq_getElem h1]; exact List.getElem_mem h1
          have := hs _ h2
          rwa [hzz] at this
        have hstep : addVals ⟨fn, ft, fk⟩ (cs.drop i) (ws.drop i) = (addVal ⟨fn, ft, fk⟩ ch ⟨zs, zt⟩).bind fun f => addVals f (cs.drop (i + 1)) (ws.drop (i + 1)) := by
          have h1 : cs.drop i = ch :: cs.drop (i + 1) := by rw [drop_getD hil, hch]
          have h3 : i < ws.length := by omega
          have h2 : ws.drop i = ⟨zs, zt⟩ :: ws.drop (i + 1) := by
            rw [List.drop_eq_getElem_cons h3, ← hzz, ← hL]
            unfold tk; rw [List.getD_cons_succ, List.getD_eq_getElem?_getD, List.getElem?_eq_getElem h3]; rfl
          rw [h1, h2, addVals]
        rw [hstep] at hav
        repeat' (first | with_reducible refine sw_in (by omega) ?_ | with_reducible (first | refine go1 ?_ | refine sct ?_ | refine scf ?_ | refine sgr ?_) | with_reducible refine sw_nextS (c := ch) hc (ha trivial) ?_ | with_reducible refine sw_indexN (i + 1) ⟨by omega, by omega⟩ ?_ | with_reducible refine sw_loadAt (.string (sB zs)) hsi ?_ | with_reducible refine sw_guard_skip_u ?_ | (with_reducible refine sc_cond (fun h => ?_) (fun h => ?_)) <;> (try (exfalso; first | contradiction | omega | exact h Iff.rfl)) | (with_reducible refine sw_guard_split (fun h => ?_) (fun h => ?_)) <;> (try (exfalso; first | contradiction | omega | exact h Iff.rfl)) | (with_reducible refine sw_pick (fun h => ?_) (fun h => ?_)) <;> (try (exfalso; first | contradiction | omega | exact h Iff.rfl)) | fail)
        · have hA : addVal ⟨fn, ft, fk⟩ ch ⟨zs, zt⟩ = (numOf zs).map fun v => ⟨fn ++ [v], ft, fk⟩ := by unfold addVal; rw [if_pos (by assumption)]
          rw [hA] at hav
          have hN := sNumber_ok W hT zs hzl
          cases hnum : numOf zs with
          | none =>
            rw [hnum] at hav hN
            have hN' : SpecP Tryd.prog 64 [.string (sB zs)] [0] [ro W] (fun _ _ _ => False) (fun F v Rs' => v = .iface 27 (.int .i64 262) ∧ Rs' = (0, ro W) :: F) :=
              hN.mono (by rintro _ _ _ ⟨k, h, _⟩; cases h) (by rintro _ _ _ ⟨_, h⟩; exact h)
            have hfe : fitsOf L = .error 262 := by rw [hfit, ← hav]; rfl
            refine sc_drawC (m := 8) ([]) CalmC.out (by kernel_rfl) rfl (fun hcalm => ?_)
            all_goals (first | refine sg_take 0 hcalm rfl (by kernel_rfl) (by kernel_rfl) (by kernel_rfl) ?_)
            all_goals (first | refine sg_take 2 hcalm rfl (by kernel_rfl) (by kernel_rfl) (by kernel_rfl) ?_)
            refine sg_two 1 3 rfl rfl (by kernel_rfl) rfl ?g1a ?g1b
            case' g1a =>
              all_goals (repeat' (first | with_reducible (first | refine go1 ?_ | refine sct ?_ | refine scf ?_ | refine sgr ?_) | ((with_reducible refine sw_callN hN' ?_); rintro _ _ ⟨rfl, rfl⟩) | ((with_reducible refine sqx_pan ⟨_, ⟨262, hfe, rfl, rfl⟩, ?_⟩); (repeat' (first | with_reducible exact Ent.refl _ | with_reducible refine Ent.take_eq ?_ ?_ | rfl | with_reducible refine Ent.trans (Ent.drop _ _) ?_ | with_reducible refine Ent.trans (oR.drop _ _ _) ?_))) | with_reducible refine sg_back ?_ | fail))
              all_goals (refine sg_one 3 rfl (by kernel_rfl) rfl ?_)
              all_goals (repeat' (first | with_reducible (first | refine go1 ?_ | refine sct ?_ | refine scf ?_ | refine sgr ?_) | ((with_reducible refine sw_callN hN' ?_); rintro _ _ ⟨rfl, rfl⟩) | ((with_reducible refine sqx_pan ⟨_, ⟨262, hfe, rfl, rfl⟩, ?_⟩); (repeat' (first | with_reducible exact Ent.refl _ | with_reducible refine Ent.take_eq ?_ ?_ | rfl | with_reducible refine Ent.trans (Ent.drop _ _) ?_ | with_reducible refine Ent.trans (oR.drop _ _ _) ?_))) | with_reducible refine sg_back ?_ | fail))
            case' g1b =>
              all_goals (repeat' (first | with_reducible (first | refine go1 ?_ | refine sct ?_ | refine scf ?_ | refine sgr ?_) | ((with_reducible refine sw_callN hN' ?_); rintro _ _ ⟨rfl, rfl⟩) | ((with_reducible refine sqx_pan ⟨_, ⟨262, hfe, rfl, rfl⟩, ?_⟩); (repeat' (first | with_reducible exact Ent.refl _ | with_reducible refine Ent.take_eq ?_ ?_ | rfl | with_reducible refine Ent.trans (Ent.drop _ _) ?_ | with_reducible refine Ent.trans (oR.drop _ _ _) ?_))) | with_reducible refine sg_back ?_ | fail))
          | some v =>
            rw [hnum] at hav hN
            have hN' : Spec Tryd.prog 64 [.string (sB zs)] [0] [ro W] (fun F u Rs' => u = .int .i64 v ∧ Rs' = (0, ro W) :: F) :=
              hN.ret (by rintro _ _ _ ⟨k, h, h2⟩; cases h; exact h2) (by rintro _ _ _ ⟨h, _⟩; cases h)
            refine sc_drawC (m := 8) ([]) CalmC.out (by kernel_rfl) rfl (fun hcalm => ?_)
            all_goals (first | refine sg_take 0 hcalm rfl (by kernel_rfl) (by kernel_rfl) (by kernel_rfl) ?_)
            all_goals (first | refine sg_take 2 hcalm rfl (by kernel_rfl) (by kernel_rfl) (by kernel_rfl) ?_)
            refine sg_two 1 3 rfl rfl (by kernel_rfl) rfl ?g2a ?g2b
            case' g2a =>
              all_goals (repeat' (first | with_reducible (first | refine go1 ?_ | refine sct ?_ | refine scf ?_ | refine sgr ?_) | ((with_reducible refine sw_callf hN' ?_); rintro _ _ ⟨rfl, rfl⟩) | with_reducible refine sw_build1 fun b8 => ?_ | with_reducible refine sw_appendV1 (kd := .i64) (b7 := b8) fn v x hx ⟨by omega, by omega⟩ fun x' hx' => ?_ | with_reducible refine sw_store ?_ | with_reducible refine sg_back ?_ | fail))
              all_goals (refine sg_one 3 rfl (by kernel_rfl) rfl ?_)
              all_goals (repeat' (first | with_reducible (first | refine go1 ?_ | refine sct ?_ | refine scf ?_ | refine sgr ?_) | ((with_reducible refine sw_callf hN' ?_); rintro _ _ ⟨rfl, rfl⟩) | with_reducible refine sw_build1 fun b8 => ?_ | with_reducible refine sw_appendV1 (kd := .i64) (b7 := b8) fn v x hx ⟨by omega, by omega⟩ fun x' hx' => ?_ | with_reducible refine sw_store ?_ | with_reducible refine sg_back ?_ | fail))
              all_goals (refine sg_one 4 rfl (by kernel_rfl) rfl ?_)
              all_goals (repeat' (first | with_reducible (first | refine go1 ?_ | refine sct ?_ | refine scf ?_ | refine sgr ?_) | ((with_reducible refine sw_callf hN' ?_); rintro _ _ ⟨rfl, rfl⟩) | with_reducible refine sw_build1 fun b8 => ?_ | with_reducible refine sw_appendV1 (kd := .i64) (b7 := b8) fn v x hx ⟨by omega, by omega⟩ fun x' hx' => ?_ | with_reducible refine sw_store ?_ | with_reducible refine sg_back ?_ | fail))
              all_goals (refine sg_one 5 rfl (by kernel_rfl) rfl ?_)
              all_goals (repeat' (first | with_reducible (first | refine go1 ?_ | refine sct ?_ | refine scf ?_ | refine sgr ?_) | ((with_reducible refine sw_callf hN' ?_); rintro _ _ ⟨rfl, rfl⟩) | with_reducible refine sw_build1 fun b8 => ?_ | with_reducible refine sw_appendV1 (kd := .i64) (b7 := b8) fn v x hx ⟨by omega, by omega⟩ fun x' hx' => ?_ | with_reducible refine sw_store ?_ | with_reducible refine sg_back ?_ | fail))
              all_goals (first | refine sg_take 6 hcalm rfl (by kernel_rfl) (by kernel_rfl) (by kernel_rfl) ?_)
              all_goals (refine sg_one 7 rfl (by kernel_rfl) rfl ?_)
              all_goals (repeat' (first | with_reducible (first | refine go1 ?_ | refine sct ?_ | refine scf ?_ | refine sgr ?_) | ((with_reducible refine sw_callf hN' ?_); rintro _ _ ⟨rfl, rfl⟩) | with_reducible refine sw_build1 fun b8 => ?_ | with_reducible refine sw_appendV1 (kd := .i64) (b7 := b8) fn v x hx ⟨by omega, by omega⟩ fun x' hx' => ?_ | with_reducible refine sw_store ?_ | with_reducible refine sg_back ?_ | fail))
              all_goals (refine sg_done (by kernel_rfl) rfl ?_)
            case' g2b =>
              all_goals (repeat' (first | with_reducible (first | refine go1 ?_ | refine sct ?_ | refine scf ?_ | refine sgr ?_) | ((with_reducible refine sw_callf hN' ?_); rintro _ _ ⟨rfl, rfl⟩) | with_reducible refine sw_build1 fun b8 => ?_ | with_reducible refine sw_appendV1 (kd := .i64) (b7 := b8) fn v x hx ⟨by omega, by omega⟩ fun x' hx' => ?_ | with_reducible refine sw_store ?_ | with_reducible refine sg_back ?_ | fail))
              refine sg_two 1 4 rfl rfl (by kernel_rfl) rfl ?g3a ?g3b
              case' g3a =>
                all_goals (repeat' (first | with_reducible (first | refine go1 ?_ | refine sct ?_ | refine scf ?_ | refine sgr ?_) | ((with_reducible refine sw_callf hN' ?_); rintro _ _ ⟨rfl, rfl⟩) | with_reducible refine sw_build1 fun b8 => ?_ | with_reducible refine sw_appendV1 (kd := .i64) (b7 := b8) fn v x hx ⟨by omega, by omega⟩ fun x' hx' => ?_ | with_reducible refine sw_store ?_ | with_reducible refine sg_back ?_ | fail))
                all_goals (refine sg_one 4 rfl (by kernel_rfl) rfl ?_)
                all_goals (repeat' (first | with_reducible (first | refine go1 ?_ | refine sct ?_ | refine scf ?_ | refine sgr ?_) | ((with_reducible refine sw_callf hN' ?_); rintro _ _ ⟨rfl, rfl⟩) | with_reducible refine sw_build1 fun b8 => ?_ | with_reducible refine sw_appendV1 (kd := .i64) (b7 := b8) fn v x hx ⟨by omega, by omega⟩ fun x' hx' => ?_ | with_reducible refine sw_store ?_ | with_reducible refine sg_back ?_ | fail))
                all_goals (refine sg_one 5 rfl (by kernel_rfl) rfl ?_)
                all_goals (repeat' (first | with_reducible (first | refine go1 ?_ | refine sct ?_ | refine scf ?_ | refine sgr ?_) | ((with_reducible refine sw_callf hN' ?_); rintro _ _ ⟨rfl, rfl⟩) | with_reducible refine sw_build1 fun b8 => ?_ | with_reducible refine sw_appendV1 (kd := .i64) (b7 := b8) fn v x hx ⟨by omega, by omega⟩ fun x' hx' => ?_ | with_reducible refine sw_store ?_ | with_reducible refine sg_back ?_ | fail))
                all_goals (first | refine sg_take 6 hcalm rfl (by kernel_rfl) (by kernel_rfl) (by kernel_rfl) ?_)
                all_goals (refine sg_one 7 rfl (by kernel_rfl) rfl ?_)
                all_goals (repeat' (first | with_reducible (first | refine go1 ?_ | refine sct ?_ | refine scf ?_ | refine sgr ?_) | ((with_reducible refine sw_callf hN' ?_); rintro _ _ ⟨rfl, rfl⟩) | with_reducible refine sw_build1 fun b8 => ?_ | with_reducible refine sw_appendV1 (kd := .i64) (b7 := b8) fn v x hx ⟨by omega, by omega⟩ fun x' hx' => ?_ | with_reducible refine sw_store ?_ | with_reducible refine sg_back ?_ | fail))
                all_goals (refine sg_done (by kernel_rfl) rfl ?_)
              case' g3b =>
                all_goals (repeat' (first | with_reducible (first | refine go1 ?_ | refine sct ?_ | refine scf ?_ | refine sgr ?_) | ((with_reducible refine sw_callf hN' ?_); rintro _ _ ⟨rfl, rfl⟩) | with_reducible refine sw_build1 fun b8 => ?_ | with_reducible refine sw_appendV1 (kd := .i64) (b7 := b8) fn v x hx ⟨by omega, by omega⟩ fun x' hx' => ?_ | with_reducible refine sw_store ?_ | with_reducible refine sg_back ?_ | fail))
                all_goals (refine sg_one 1 rfl (by kernel_rfl) rfl ?_)
                all_goals (repeat' (first | with_reducible (first | refine go1 ?_ | refine sct ?_ | refine scf ?_ | refine sgr ?_) | ((with_reducible refine sw_callf hN' ?_); rintro _ _ ⟨rfl, rfl⟩) | with_reducible refine sw_build1 fun b8 => ?_ | with_reducible refine sw_appendV1 (kd := .i64) (b7 := b8) fn v x hx ⟨by omega, by omega⟩ fun x' hx' => ?_ | with_reducible refine sw_store ?_ | with_reducible refine sg_back ?_ | fail))
                all_goals (refine sg_one 5 rfl (by kernel_rfl) rfl ?_)
                all_goals (repeat' (first | with_reducible (first | refine go1 ?_ | refine sct ?_ | refine scf ?_ | refine sgr ?_) | ((with_reducible refine sw_callf hN' ?_); rintro _ _ ⟨rfl, rfl⟩) | with_reducible refine sw_build1 fun b8 => ?_ | with_reducible refine sw_appendV1 (kd := .i64) (b7 := b8) fn v x hx ⟨by omega, by omega⟩ fun x' hx' => ?_ | with_reducible refine sw_store ?_ | with_reducible refine sg_back ?_ | fail))
                all_goals (first | refine sg_take 6 hcalm rfl (by kernel_rfl) (by kernel_rfl) (by kernel_rfl) ?_)
                all_goals (refine sg_one 7 rfl (by kernel_rfl) rfl ?_)
                all_goals (repeat' (first | with_reducible (first | refine go1 ?_ | refine sct ?_ | refine scf ?_ | refine sgr ?_) | ((with_reducible refine sw_callf hN' ?_); rintro _ _ ⟨rfl, rfl⟩) | with_reducible refine sw_build1 fun b8 => ?_ | with_reducible refine sw_appendV1 (kd := .i64) (b7 := b8) fn v x hx ⟨by omega, by omega⟩ fun x' hx' => ?_ | with_reducible refine sw_store ?_ | with_reducible refine sg_back ?_ | fail))
                all_goals (refine sg_done (by kernel_rfl) rfl ?_)
            all_goals (repeat' (first | with_reducible (first | refine go1 ?_ | refine sct ?_ | refine scf ?_ | refine sgr ?_) | fail))
            all_goals refine sq_round ⟨(i + 1, ⟨fn ++ [v], ft, fk⟩, x', y, z), by dsimp only; omega, ⟨fun h => absurd h hx', hy, hz⟩, by simp only [List.length_append, List.length_cons, List.length_nil]; omega, by dsimp only; omega, hav⟩ (by show cs.length - (i + 1) < cs.length - i; omega) ?_ ?_
            all_goals (first | ((repeat' (first | exact says_nil | refine says_cons rfl ?_ | refine says_cons (by simp) ?_)); done) | skip)
            all_goals (show Ent _ (oR (vG .i64 3 (fn ++ [v])) (oR (nG 9 (strC ft)) (oR (nG 4 (boolC fk)) ((r2, pts r2 (.stringIter ⟨cs.toArray⟩ (i + 1))) :: (b7, pts b7 (.cells [bufV (fn ++ [v]).length x', nV ft.length y, nV fk.length z].toArray 88 (0, 0))) :: (b2, pts b2 (.cells [Value.slice none 0 0, .slice none 0 0, .slice none 0 0].toArray 88 (0, 0))) :: (0, ro W) :: (b, pts b (.cells (tokC L ++ t).toArray 96 (0, 0))) :: F) z) y) x'))
            all_goals (repeat' (first | with_reducible exact Ent.refl _ | with_reducible refine Ent.take_eq ?_ ?_ | rfl | with_reducible refine Ent.oR ?_ | with_reducible refine Ent.trans (oR.drop _ _ _) ?_ | with_reducible refine Ent.trans (Ent.drop _ _) ?_))
        · have hA : addVal ⟨fn, ft, fk⟩ ch ⟨zs, zt⟩ = (keepsS zs).map fun k => ⟨fn, ft, k⟩ := by unfold addVal; rw [if_neg (by assumption), if_pos (by assumption)]
          rw [hA] at hav
          have hK := sKeeps_ok zs hzl
          cases hks : keepsS zs with
          | none =>
            rw [hks] at hav hK
            have hK' : SpecP Tryd.prog 65 [.string (sB zs)] [] [] (fun _ _ _ => False) (fun F v Rs' => v = .iface 27 (.int .i64 262) ∧ Rs' = F) :=
              hK.mono (by rintro _ _ _ ⟨l, o, h, _⟩; cases h) (by rintro _ _ _ ⟨_, h⟩; exact h)
            have hfe : fitsOf L = .error 262 := by rw [hfit, ← hav]; rfl
            refine sw_callN hK' ?_
            rintro _ _ ⟨rfl, rfl⟩
            repeat' (first | with_reducible (first | refine go1 ?_ | refine sct ?_ | refine scf ?_ | refine sgr ?_) | fail)
            refine sqx_pan ⟨_, ⟨262, hfe, rfl, rfl⟩, ?_⟩
            repeat' (first | with_reducible exact Ent.refl _ | with_reducible refine Ent.take_eq ?_ ?_ | rfl | with_reducible refine Ent.oR ?_ | with_reducible refine Ent.trans (oR.drop _ _ _) ?_ | with_reducible refine Ent.trans (Ent.drop _ _) ?_)
          | some kl =>
            rw [hks] at hav hK
            have hK' : Spec Tryd.prog 65 [.string (sB zs)] [] [] (fun F u Rs' => ∃ o, NOk 1 (boolC kl) kl.length o ∧ u = nV kl.length o ∧ Rs' = oR (nG 4 (boolC kl)) F o) :=
              hK.ret (by rintro _ _ _ ⟨l, o, h, h2⟩; cases h; exact ⟨o, h2⟩) (by rintro _ _ _ ⟨h, _⟩; cases h)
            refine sw_callf hK' ?_
            rintro _ _ ⟨z', hz', rfl, rfl⟩
            repeat' (first | with_reducible (first | refine go1 ?_ | refine sct ?_ | refine scf ?_ | refine sgr ?_) | with_reducible refine sw_store ?_ | fail)
            refine sq_round ⟨(i + 1, ⟨fn, ft, kl⟩, x, y, z'), by dsimp only; omega, ⟨hx, hy, hz'⟩, by dsimp only; omega, by dsimp only; omega, hav⟩ (by show cs.length - (i + 1) < cs.length - i; omega) ?_ ?_
            · repeat' (first | exact says_nil | refine says_cons rfl ?_ | refine says_cons (by simp) ?_)
            · show Ent _ (oR (vG .i64 3 fn) (oR (nG 9 (strC ft)) (oR (nG 4 (boolC kl)) ((r2, pts r2 (.stringIter ⟨cs.toArray⟩ (i + 1))) :: (b7, pts b7 (.cells [bufV fn.length x, nV ft.length y, nV kl.length z'].toArray 88 (0, 0))) :: (b2, pts b2 (.cells [Value.slice none 0 0, .slice none 0 0, .slice none 0 0].toArray 88 (0, 0))) :: (0, ro W) :: (b, pts b (.cells (tokC L ++ t).toArray 96 (0, 0))) :: F) z') y) x)
              repeat' (first | with_reducible exact Ent.refl _ | with_reducible refine Ent.take_eq ?_ ?_ | rfl | with_reducible refine Ent.oR ?_ | with_reducible refine Ent.trans (oR.drop _ _ _) ?_ | with_reducible refine Ent.trans (Ent.drop _ _) ?_)
        · have hA : addVal ⟨fn, ft, fk⟩ ch ⟨zs, zt⟩ = some ⟨fn, ft ++ [zs], fk⟩ := by unfold addVal; rw [if_neg (by assumption), if_neg (by assumption)]
          rw [hA] at hav
          refine sw_build1 fun b8 => ?_
          refine sw_appendNV (sz := 1) (b7 := b8) (strC ft) [.string (sB zs)] ft.length y hy (by intro v hv; simp only [List.mem_cons, List.not_mem_nil, or_false] at hv; subst hv; rfl) rfl (by omega) ⟨rfl, by omega, by omega⟩ fun y' hy0 hy' => ?_
          have hC : strC ft ++ [.string (sB zs)] = strC (ft ++ [zs]) := by unfold strC; simp
          rw [hC] at hy' ⊢
          repeat' (first | with_reducible (first | refine go1 ?_ | refine sct ?_ | refine scf ?_ | refine sgr ?_) | with_reducible refine sw_store ?_ | fail)
          refine sq_round ⟨(i + 1, ⟨fn, ft ++ [zs], fk⟩, x, y', z), by dsimp only; omega, ⟨hx, by rw [List.length_append]; exact hy', hz⟩, by dsimp only; omega, by simp only [List.length_append, List.length_cons, List.length_nil]; omega, hav⟩ (by show cs.length - (i + 1) < cs.length - i; omega) ?_ ?_
          · repeat' (first | exact says_nil | refine says_cons rfl ?_ | refine says_cons (by simp) ?_)
          · show Ent _ (oR (vG .i64 3 fn) (oR (nG 9 (strC (ft ++ [zs]))) (oR (nG 4 (boolC fk)) ((r2, pts r2 (.stringIter ⟨cs.toArray⟩ (i + 1))) :: (b7, pts b7 (.cells [bufV fn.length x, nV (ft ++ [zs]).length y', nV fk.length z].toArray 88 (0, 0))) :: (b2, pts b2 (.cells [Value.slice none 0 0, .slice none 0 0, .slice none 0 0].toArray 88 (0, 0))) :: (0, ro W) :: (b, pts b (.cells (tokC L ++ t).toArray 96 (0, 0))) :: F) z) y') x)
            rw [List.length_append]
            repeat' (first | with_reducible exact Ent.refl _ | with_reducible refine Ent.take_eq ?_ ?_ | rfl | with_reducible refine Ent.oR ?_ | with_reducible refine Ent.trans (oR.drop _ _ _) ?_ | with_reducible refine Ent.trans (Ent.drop _ _) ?_)
      · repeat' (first | with_reducible (first | refine go1 ?_ | refine sct ?_ | refine scf ?_ | refine sgr ?_) | with_reducible refine sw_nextS_end hil ?_ | with_reducible refine sw_store_agg ?_ | fail)
        refine sqx ?_
        refine sq_resA Tryd.results43 (by first | exact .inl rfl | exact .inr rfl) rfl ?_
        have hie : i = cs.length := by omega
        subst hie
        rw [List.drop_length, ← hleq, List.drop_length] at hav
        refine ⟨_, ⟨⟨fn, ft, fk⟩, x, y, z, by rw [hfit, ← hav]; rfl, ⟨hx, hy, hz⟩, rfl, rfl⟩, ?_⟩
        repeat' (first | with_reducible exact Ent.refl _ | with_reducible refine Ent.take_eq ?_ ?_ | rfl | with_reducible refine Ent.oR ?_ | with_reducible refine Ent.trans (oR.drop _ _ _) ?_ | with_reducible refine Ent.trans (Ent.drop _ _) ?_)
end Go.Gsl

namespace Go.Gsl
set_option linter.unusedVariables false
open Go.Proofs

theorem fldR_app (f : Flds) (x : Option (Nat × List Value)) (y z : Option (Nat × Nat × List Value)) (F : List Res) : fldR f x y z F = fldR f x y z [] ++ F := by
  cases x <;> cases y <;> cases z <;> rfl
/-- a line's values, in one -/
def FLD (f : Flds) (x : Option (Nat × List Value)) (y z : Option (Nat × Nat × List Value)) : HProp := hall (fldR f x y z [])
theorem fld_close (f : Flds) (x : Option (Nat × List Value)) (y z : Option (Nat × Nat × List Value)) (F : List Res) : Ent (fldR f x y z F) ((7010, FLD f x y z) :: F) := by
  rw [fldR_app]; exact Ent.hall_close _ _ _
theorem fld_open (f : Flds) (x : Option (Nat × List Value)) (y z : Option (Nat × Nat × List Value)) (F : List Res) : Ent ((7010, FLD f x y z) :: F) (fldR f x y z F) := by
  rw [fldR_app]; exact Ent.hall_open _ _ _

abbrev callC (c : Call) : List Value := [.int .i64 c.kind, .int .i64 c.level, .string (sB c.key), .string (sB c.value), .string (sB c.low), .string (sB c.high)]
abbrev actC (a : Act) (kv : Value) : List Value := [.int .i64 a.d, .int .i64 a.n, .int .i64 a.c.kind, .int .i64 a.c.level, .string (sB a.c.key), .string (sB a.c.value), .string (sB a.c.low), .string (sB a.c.high), kv]

theorem text1 {ft : List Bs} {y : Option (Nat × Nat × List Value)} (hy : NOk 1 (strC ft) ft.length y) (h : 1 ≤ ft.length) : ∃ b c t t0 tr, y = some (b, c, t) ∧ ft = t0 :: tr := by
  obtain ⟨_, q2, _⟩ := hy
  cases ft with
  | nil => simp at h
  | cons t0 tr =>
    cases y with
    | none => have := (q2 rfl).2; simp at this
    | some bt => obtain ⟨b, c, t⟩ := bt; exact ⟨b, c, t, t0, tr, rfl, rfl⟩
theorem text2 {ft : List Bs} {y : Option (Nat × Nat × List Value)} (hy : NOk 1 (strC ft) ft.length y) (h : 2 ≤ ft.length) : ∃ b c t t0 t1 tr, y = some (b, c, t) ∧ ft = t0 :: t1 :: tr := by
  obtain ⟨b, c, t, t0, tr, h1, h2⟩ := text1 hy (by omega)
  cases tr with
  | nil => rw [h2] at h; simp at h
  | cons t1 tr => exact ⟨b, c, t, t0, t1, tr, h1, h2⟩

/-- the calls of the store's own -/
def isOwn (s : Bs) : Prop := s = wEpoch ∨ s = wPrune ∨ s = wShrink ∨ s = wSave ∨ s = wForget
instance (s : Bs) : Decidable (isOwn s) := inferInstanceAs (Decidable (_ ∨ _))
theorem A_Begin (n : List Int) (t : List Bs) (k : List Bool) : actOf wBegin ⟨n, t, k⟩ = ⟨1, n.headD 0, { noCall with kind := 1, level := if t.headD [] = wSerial then 2 else 1 }, k⟩ := rfl
theorem O_Begin : ¬ isOwn wBegin := by decide +kernel
theorem A_Get (n : List Int) (t : List Bs) (k : List Bool) : actOf wGet ⟨n, t, k⟩ = ⟨1, n.headD 0, { noCall with kind := 2, key := t.headD [] }, k⟩ := rfl
theorem O_Get : ¬ isOwn wGet := by decide +kernel
theorem A_Put (n : List Int) (t : List Bs) (k : List Bool) : actOf wPut ⟨n, t, k⟩ = ⟨1, n.headD 0, { noCall with kind := 3, key := t.headD [], value := t.getD 1 [] }, k⟩ := rfl
theorem O_Put : ¬ isOwn wPut := by decide +kernel
theorem A_Delete (n : List Int) (t : List Bs) (k : List Bool) : actOf wDelete ⟨n, t, k⟩ = ⟨1, n.headD 0, { noCall with kind := 4, key := t.headD [] }, k⟩ := rfl
theorem O_Delete : ¬ isOwn wDelete := by decide +kernel
theorem A_Scan (n : List Int) (t : List Bs) (k : List Bool) : actOf wScan ⟨n, t, k⟩ = ⟨1, n.headD 0, { noCall with kind := 5, low := t.headD [], high := t.getD 1 [] }, k⟩ := rfl
theorem O_Scan : ¬ isOwn wScan := by decide +kernel
theorem A_Commit (n : List Int) (t : List Bs) (k : List Bool) : actOf wCommit ⟨n, t, k⟩ = ⟨1, n.headD 0, { noCall with kind := 6 }, k⟩ := rfl
theorem O_Commit : ¬ isOwn wCommit := by decide +kernel
theorem A_Abort (n : List Int) (t : List Bs) (k : List Bool) : actOf wAbort ⟨n, t, k⟩ = ⟨1, n.headD 0, { noCall with kind := 7 }, k⟩ := rfl
theorem O_Abort : ¬ isOwn wAbort := by decide +kernel
theorem A_Epoch (n : List Int) (t : List Bs) (k : List Bool) : actOf wEpoch ⟨n, t, k⟩ = ⟨1, 16, { noCall with kind := 8 }, []⟩ := rfl
theorem O_Epoch : isOwn wEpoch := by decide +kernel
theorem A_Prune (n : List Int) (t : List Bs) (k : List Bool) : actOf wPrune ⟨n, t, k⟩ = ⟨1, 16, { noCall with kind := 9, key := t.headD [] }, []⟩ := rfl
theorem O_Prune : isOwn wPrune := by decide +kernel
theorem A_Shrink (n : List Int) (t : List Bs) (k : List Bool) : actOf wShrink ⟨n, t, k⟩ = ⟨1, 16, { noCall with kind := 10, key := t.headD [] }, []⟩ := rfl
theorem O_Shrink : isOwn wShrink := by decide +kernel
theorem A_Save (n : List Int) (t : List Bs) (k : List Bool) : actOf wSave ⟨n, t, k⟩ = ⟨1, 16, { noCall with kind := 11 }, []⟩ := rfl
theorem O_Save : isOwn wSave := by decide +kernel
theorem A_Forget (n : List Int) (t : List Bs) (k : List Bool) : actOf wForget ⟨n, t, k⟩ = ⟨1, 16, { noCall with kind := 12 }, []⟩ := rfl
theorem O_Forget : isOwn wForget := by decide +kernel
theorem A_Step (n : List Int) (t : List Bs) (k : List Bool) : actOf wStep ⟨n, t, k⟩ = ⟨2, n.headD 0, noCall, k⟩ := rfl
theorem O_Step : ¬ isOwn wStep := by decide +kernel
theorem A_Pick (n : List Int) (t : List Bs) (k : List Bool) : actOf wPick ⟨n, t, k⟩ = ⟨3, n.headD 0, noCall, k⟩ := rfl
theorem O_Pick : ¬ isOwn wPick := by decide +kernel
theorem A_Run (n : List Int) (t : List Bs) (k : List Bool) : actOf wRun ⟨n, t, k⟩ = ⟨4, n.headD 0, noCall, k⟩ := rfl
theorem O_Run : ¬ isOwn wRun := by decide +kernel
theorem A_All (n : List Int) (t : List Bs) (k : List Bool) : actOf wAll ⟨n, t, k⟩ = ⟨5, n.headD 0, noCall, k⟩ := rfl
theorem O_All : ¬ isOwn wAll := by decide +kernel
theorem A_Crash (n : List Int) (t : List Bs) (k : List Bool) : actOf wCrash ⟨n, t, k⟩ = ⟨6, n.headD 0, noCall, k⟩ := rfl
theorem O_Crash : ¬ isOwn wCrash := by decide +kernel
theorem A_Fuse (n : List Int) (t : List Bs) (k : List Bool) : actOf wFuse ⟨n, t, k⟩ = ⟨7, n.headD 0, noCall, k⟩ := rfl
theorem O_Fuse : ¬ isOwn wFuse := by decide +kernel
theorem A_Restart (n : List Int) (t : List Bs) (k : List Bool) : actOf wRestart ⟨n, t, k⟩ = ⟨8, n.headD 0, noCall, k⟩ := rfl
theorem O_Restart : ¬ isOwn wRestart := by decide +kernel
theorem A_else {s : Bs} (n : List Int) (t : List Bs) (k : List Bool) (hBegin : ¬ s = wBegin) (hGet : ¬ s = wGet) (hPut : ¬ s = wPut) (hDelete : ¬ s = wDelete) (hScan : ¬ s = wScan) (hCommit : ¬ s = wCommit) (hAbort : ¬ s = wAbort) (hEpoch : ¬ s = wEpoch) (hPrune : ¬ s = wPrune) (hShrink : ¬ s = wShrink) (hSave : ¬ s = wSave) (hForget : ¬ s = wForget) (hStep : ¬ s = wStep) (hPick : ¬ s = wPick) (hRun : ¬ s = wRun) (hAll : ¬ s = wAll) (hCrash : ¬ s = wCrash) (hFuse : ¬ s = wFuse) (hRestart : ¬ s = wRestart) : actOf s ⟨n, t, k⟩ = ⟨9, n.headD 0, noCall, k⟩ := by
  unfold actOf; simp only [*, if_false]
theorem O_else {s : Bs} (h1 : ¬ s = wEpoch) (h2 : ¬ s = wPrune) (h3 : ¬ s = wShrink) (h4 : ¬ s = wSave) (h5 : ¬ s = wForget) : ¬ isOwn s := by
  rintro (h | h | h | h | h) <;> contradiction

theorem sActOwn_ok (c : Call) : Spec Tryd.prog 62 [.agg (callC c).toArray] [] [] fun F v Rs' => v = .agg (actC ⟨1, 16, c, []⟩ (.slice none 0 0)).toArray ∧ Rs' = F := by
  refine spec_of Tryd.func62 rfl Tryd.ntmps62 rfl ?_
  intro w0 F
  repeat' (first | with_reducible (first | refine go1 ?_ | refine sct ?_ | refine scf ?_ | refine sgr ?_) | with_reducible refine sw_box fun b1 => ?_ | with_reducible refine sw_alloc fun b2 => ?_ | with_reducible refine sw_build (actC ⟨1, 16, c, []⟩ (.slice none 0 0)) (by kernel_rfl) ?_ | with_reducible refine sw_store_agg ?_ | fail)
  refine sq_resA Tryd.results62 (by first | exact .inl rfl | exact .inr rfl) rfl ?_
  exact ⟨_, ⟨rfl, rfl⟩, by repeat' (first | with_reducible exact Ent.refl _ | with_reducible refine Ent.take_eq ?_ ?_ | rfl | with_reducible refine Ent.oR ?_ | with_reducible refine Ent.trans (oR.drop _ _ _) ?_ | with_reducible refine Ent.trans (Ent.drop _ _) ?_)⟩
set_option maxHeartbeats 4000000 in
theorem sAct_ok (s : Bs) (f : Flds) (x : Option (Nat × List Value)) (y z : Option (Nat × Nat × List Value)) (hf : FldOk f x y z) (h1 : s = wBegin ∨ s = wGet ∨ s = wDelete ∨ s = wPrune ∨ s = wShrink → 1 ≤ f.t.length) (h2 : s = wPut ∨ s = wScan → 2 ≤ f.t.length) :
    Spec Tryd.prog 42 [.string (sB s), .agg (fldV f x y z).toArray] [7010] [FLD f x y z]
    fun F v Rs' => v = .agg (actC (actOf s f) (if isOwn s then .slice none 0 0 else nV f.k.length z)).toArray ∧ Rs' = (7010, FLD f x y z) :: F := by
  obtain ⟨fn, ft, fk⟩ := f
  obtain ⟨hx, hy, hz⟩ := hf
  dsimp only at h1 h2 hx hy hz
  unfold fldV
  dsimp only
  refine spec_of Tryd.func42 rfl Tryd.ntmps42 rfl ?_
  intro w0 F
  refine sc_ent (fld_open _ _ _ _ _) ?_
  unfold fldR
  dsimp only
  have hxl : x = none → fn.length = 0 := fun h => by rw [hx h]; rfl
  obtain ⟨kv, hkv⟩ : ∃ kv, nV fk.length z = kv := ⟨_, rfl⟩
  have hone : One kv := by rw [← hkv]; infer_instance
  have hk1 : kv.cells = #[kv] := cells_one hone.out
  rw [hkv]
  have hfill : Instr.fill (fun i => [(0, 1), (1, 1), (2, 6), (8, 1)][i]?) (Value.agg #[.int .i64 0, .int .i64 0, .int .i64 0, .int .i64 0, .string ⟨#[]⟩, .string ⟨#[]⟩, .string ⟨#[]⟩, .string ⟨#[]⟩, .slice none 0 0]).cells [(3, kv)] =
      some [.int .i64 0, .int .i64 0, .int .i64 0, .int .i64 0, .string (sB []), .string (sB []), .string (sB []), .string (sB []), kv].toArray := by
    show Instr.fill (fun i => [(0, 1), (1, 1), (2, 6), (8, 1)][i]?) #[.int .i64 0, .int .i64 0, .int .i64 0, .int .i64 0, .string ⟨#[]⟩, .string ⟨#[]⟩, .string ⟨#[]⟩, .string ⟨#[]⟩, .slice none 0 0] [(3, kv)] = _
    simp [Instr.fill, hk1]
  repeat' (first | with_reducible (first | refine go1 ?_ | refine sct ?_ | refine scf ?_ | refine sgr ?_) | with_reducible refine sw_box fun b3 => ?_ | fail)
  refine sw_alloc fun b4 => ?_
  repeat' (first | with_reducible (first | refine go1 ?_ | refine sct ?_ | refine scf ?_ | refine sgr ?_) | with_reducible refine sw_build [.int .i64 0, .int .i64 0, .int .i64 0, .int .i64 0, .string (sB []), .string (sB []), .string (sB []), .string (sB []), kv] hfill ?_ | fail)
  refine sw_alloc fun b5 => ?_
  refine sw_store_agg ?_
  refine sw_nil ?_
  refine sq_then ?_
  obtain ⟨n0, hn0⟩ : ∃ n0, fn.headD 0 = n0 := ⟨_, rfl⟩
  refine sc_join (α := Unit) (fun _ => [(0, .string (sB s)), (3, .pointer (some ⟨b3, 0, none⟩)), (4, .pointer (some ⟨b4, 0, none⟩)), (5, .pointer (some ⟨b5, 0, none⟩))])
    (fun _ => (b5, pts b5 (.cells [.int .i64 0, .int .i64 n0, .int .i64 0, .int .i64 0, .string (sB []), .string (sB []), .string (sB []), .string (sB []), kv].toArray 46 (0, 0))) ::
      (b4, pts b4 (.cells [.int .i64 0, .int .i64 0, .int .i64 0, .int .i64 0, .string (sB []), .string (sB []), .string (sB []), .string (sB []), .slice none 0 0].toArray 46 (0, 0))) ::
      (b3, pts b3 (.cells [bufV fn.length x, nV ft.length y, kv].toArray 88 (0, 0))) :: oR (vG .i64 3 fn) (oR (nG 9 (strC ft)) (oR (nG 4 (boolC fk)) F z) y) x) ?_ ?_
  · repeat' (first | with_reducible (first | refine go1 ?_ | refine sct ?_ | refine scf ?_ | refine sgr ?_) | with_reducible refine sw_op (h := runop_lenV x hxl) ?_ | (with_reducible refine sc_cond (fun h => ?_) (fun h => ?_)) <;> (try (exfalso; first | contradiction | omega | exact h Iff.rfl)) | fail)
    · cases x with
      | none => rw [hx rfl] at h; simp at h
      | some bt =>
        obtain ⟨bx, tx⟩ := bt
        cases fn with
        | nil => simp at h
        | cons v0 fr =>
          simp only [List.headD_cons] at hn0
          subst hn0
          simp only [bufV]
          rw [vG_some]
          repeat' (first | with_reducible (first | refine go1 ?_ | refine sct ?_ | refine scf ?_ | refine sgr ?_) | with_reducible refine sw_idx 0 ⟨rfl, by simp⟩ ?_ | with_reducible refine sw_loadAt (.int .i64 v0) rfl ?_ | with_reducible refine sw_store ?_ | fail)
          refine sq_join () ?_ ?_
          · repeat' (first | exact says_nil | refine says_cons rfl ?_ | refine says_cons (by simp) ?_)
          · repeat' (first | with_reducible exact Ent.refl _ | with_reducible refine Ent.take_eq ?_ ?_ | rfl | with_reducible refine Ent.oR ?_ | with_reducible refine Ent.trans (oR.drop _ _ _) ?_ | with_reducible refine Ent.trans (Ent.drop _ _) ?_)
    · have hfn : fn = [] := List.length_eq_zero_iff.1 (by omega)
      subst hfn
      simp only [List.headD_nil] at hn0
      subst hn0
      refine sq_join () ?_ ?_
      · repeat' (first | exact says_nil | refine says_cons rfl ?_ | refine says_cons (by simp) ?_)
      · repeat' (first | with_reducible exact Ent.refl _ | with_reducible refine Ent.take_eq ?_ ?_ | rfl | with_reducible refine Ent.oR ?_ | with_reducible refine Ent.trans (oR.drop _ _ _) ?_ | with_reducible refine Ent.trans (Ent.drop _ _) ?_)
  rintro _ e
  simp only [List.cons_append, List.nil_append]
  have e1 : ∀ c : Call, ([.int .i64 1, .int .i64 n0, .int .i64 0, .int .i64 0, .string (sB []), .string (sB []), .string (sB []), .string (sB []), kv] : List Value).take 2 ++ callC c ++ ([.int .i64 1, .int .i64 n0, .int .i64 0, .int .i64 0, .string (sB []), .string (sB []), .string (sB []), .string (sB []), kv] : List Value).drop (2 + 6) = actC ⟨1, n0, c, []⟩ kv := fun c => rfl
  repeat' (first | with_reducible (first | refine go1 ?_ | refine sct ?_ | refine scf ?_ | refine sgr ?_) | (with_reducible refine sc_cond (fun h => ?_) (fun h => ?_)) <;> (try (exfalso; first | contradiction | omega | exact h Iff.rfl)) | fail)
  · obtain ⟨by', cy, ty, t0, tr, rfl, rfl⟩ := text1 hy (h1 (.inl h))
    have hb := h
    simp only [nV]
    rw [nG_some]
    repeat' (first | with_reducible (first | refine go1 ?_ | refine sct ?_ | refine scf ?_ | refine sgr ?_) | with_reducible refine sw_build (callC ⟨1, 1, [], [], [], []⟩) (by kernel_rfl) ?_ | with_reducible refine sw_store ?_ | with_reducible refine sw_storePart (actC ⟨1, n0, ⟨1, 1, [], [], [], []⟩, []⟩ kv) (by simp) (e1 _) ?_ | with_reducible refine sw_idx 0 ⟨rfl, by simp⟩ ?_ | with_reducible refine sw_loadAt (.string (sB t0)) rfl ?_ | with_reducible refine sw_store_agg ?_ | (with_reducible refine sc_cond (fun h => ?_) (fun h => ?_)) <;> (try (exfalso; first | contradiction | omega | exact h Iff.rfl)) | fail)
    · refine sq_resA Tryd.results42 (by first | exact .inl rfl | exact .inr rfl) rfl ?_
      refine ⟨_, ⟨?_, rfl⟩, ?_⟩
      · rw [show s = wBegin from hb, A_Begin, if_neg O_Begin]; simp only [hkv, hn0]; rw [List.headD_cons, if_pos (show t0 = wSerial from h)]; rfl
      · refine Ent.trans ?_ (fld_close _ _ _ _ _)
        unfold fldR
        dsimp only
        repeat' (first | with_reducible exact Ent.refl _ | with_reducible refine Ent.take_eq ?_ ?_ | rfl | with_reducible refine Ent.oR ?_ | with_reducible refine Ent.trans (oR.drop _ _ _) ?_ | with_reducible refine Ent.trans (Ent.drop _ _) ?_)
    · refine sq_resA Tryd.results42 (by first | exact .inl rfl | exact .inr rfl) rfl ?_
      refine ⟨_, ⟨?_, rfl⟩, ?_⟩
      · rw [show s = wBegin from hb, A_Begin, if_neg O_Begin]; simp only [hkv, hn0]; rw [List.headD_cons, if_neg (show ¬ t0 = wSerial from h)]; rfl
      · refine Ent.trans ?_ (fld_close _ _ _ _ _)
        unfold fldR
        dsimp only
        repeat' (first | with_reducible exact Ent.refl _ | with_reducible refine Ent.take_eq ?_ ?_ | rfl | with_reducible refine Ent.oR ?_ | with_reducible refine Ent.trans (oR.drop _ _ _) ?_ | with_reducible refine Ent.trans (Ent.drop _ _) ?_)
  · obtain ⟨by', cy, ty, t0, tr, rfl, rfl⟩ := text1 hy (h1 (.inr (.inl h)))
    simp only [nV]
    rw [nG_some]
    refine sc_lin ([(b3, pts b3 (.cells [bufV fn.length x, .slice (some ⟨by', 0, none⟩) (t0 :: tr).length cy, kv].toArray 88 (0, 0))), (by', pts by' (.cells (strC (t0 :: tr) ++ ty).toArray 9 (0, 0)))]) (llp 0 (llp 1 (llp 2 (llp 3 (llp 4 (llp 5 (lle 6 (llp 7 (lle 8 ll0))))))))) (by kernel_rfl) rfl (by kernel_rfl) ?_
    all_goals (iterate 2 refine go1l ?_)
    all_goals refine sl_take (h := runop_indexN 0 ⟨rfl, by simp⟩) ?_
    all_goals refine sl_take (h := runop_loadAt (.string (sB t0)) rfl) ?_
    all_goals refine sl_take (h := runop_buildR (callC ⟨2, 0, t0, [], [], []⟩) (by kernel_rfl)) ?_
    all_goals refine go1l ?_
    all_goals refine sl_eff ?_
    all_goals (repeat' (first | with_reducible (first | refine go1 ?_ | refine sct ?_ | refine scf ?_ | refine sgr ?_) | with_reducible refine sw_store ?_ | with_reducible refine sw_storePart (actC ⟨1, n0, ⟨2, 0, t0, [], [], []⟩, []⟩ kv) (by simp) (e1 _) ?_ | with_reducible refine sl_back ?_ | fail))
    all_goals refine go1l ?_
    all_goals refine sl_eff ?_
    all_goals (repeat' (first | with_reducible (first | refine go1 ?_ | refine sct ?_ | refine scf ?_ | refine sgr ?_) | with_reducible refine sw_store ?_ | with_reducible refine sw_storePart (actC ⟨1, n0, ⟨2, 0, t0, [], [], []⟩, []⟩ kv) (by simp) (e1 _) ?_ | with_reducible refine sl_back ?_ | fail))
    all_goals refine sl_done ?_
    repeat' (first | with_reducible (first | refine go1 ?_ | refine sct ?_ | refine scf ?_ | refine sgr ?_) | with_reducible refine sw_store_agg ?_ | fail)
    refine sq_resA Tryd.results42 (by first | exact .inl rfl | exact .inr rfl) rfl ?_
    refine ⟨_, ⟨?_, rfl⟩, ?_⟩
    · rw [show s = wGet from h, A_Get, if_neg O_Get]; simp only [hkv, hn0]; rfl
    · refine Ent.trans ?_ (fld_close _ _ _ _ _)
      unfold fldR
      dsimp only
      repeat' (first | with_reducible exact Ent.refl _ | with_reducible refine Ent.take_eq ?_ ?_ | rfl | with_reducible refine Ent.oR ?_ | with_reducible refine Ent.trans (oR.drop _ _ _) ?_ | with_reducible refine Ent.trans (Ent.drop _ _) ?_)
  · obtain ⟨by', cy, ty, t0, t1, tr, rfl, rfl⟩ := text2 hy (h2 (.inl h))
    simp only [nV]
    rw [nG_some]
    refine sc_lin ([(b3, pts b3 (.cells [bufV fn.length x, .slice (some ⟨by', 0, none⟩) (t0 :: t1 :: tr).length cy, kv].toArray 88 (0, 0))), (by', pts by' (.cells (strC (t0 :: t1 :: tr) ++ ty).toArray 9 (0, 0)))]) (llp 0 (llp 1 (llp 2 (llp 3 (llp 4 (llp 5 (llp 6 (llp 7 (llp 8 (llp 9 (lle 10 (llp 11 (lle 12 ll0))))))))))))) (by kernel_rfl) rfl (by kernel_rfl) ?_
    all_goals (iterate 2 refine go1l ?_)
    all_goals refine sl_take (h := runop_indexN 0 ⟨rfl, by simp⟩) ?_
    all_goals refine sl_take (h := runop_loadAt (.string (sB t0)) rfl) ?_
    all_goals (iterate 2 refine go1l ?_)
    all_goals refine sl_take (h := runop_indexN 1 ⟨rfl, by simp⟩) ?_
    all_goals refine sl_take (h := runop_loadAt (.string (sB t1)) rfl) ?_
    all_goals refine sl_take (h := runop_buildR (callC ⟨3, 0, t0, t1, [], []⟩) (by kernel_rfl)) ?_
    all_goals refine go1l ?_
    all_goals refine sl_eff ?_
    all_goals (repeat' (first | with_reducible (first | refine go1 ?_ | refine sct ?_ | refine scf ?_ | refine sgr ?_) | with_reducible refine sw_store ?_ | with_reducible refine sw_storePart (actC ⟨1, n0, ⟨3, 0, t0, t1, [], []⟩, []⟩ kv) (by simp) (e1 _) ?_ | with_reducible refine sl_back ?_ | fail))
    all_goals refine go1l ?_
    all_goals refine sl_eff ?_
    all_goals (repeat' (first | with_reducible (first | refine go1 ?_ | refine sct ?_ | refine scf ?_ | refine sgr ?_) | with_reducible refine sw_store ?_ | with_reducible refine sw_storePart (actC ⟨1, n0, ⟨3, 0, t0, t1, [], []⟩, []⟩ kv) (by simp) (e1 _) ?_ | with_reducible refine sl_back ?_ | fail))
    all_goals refine sl_done ?_
    repeat' (first | with_reducible (first | refine go1 ?_ | refine sct ?_ | refine scf ?_ | refine sgr ?_) | with_reducible refine sw_store_agg ?_ | fail)
    refine sq_resA Tryd.results42 (by first | exact .inl rfl | exact .inr rfl) rfl ?_
    refine ⟨_, ⟨?_, rfl⟩, ?_⟩
    · rw [show s = wPut from h, A_Put, if_neg O_Put]; simp only [hkv, hn0]; rfl
    · refine Ent.trans ?_ (fld_close _ _ _ _ _)
      unfold fldR
      dsimp only
      repeat' (first | with_reducible exact Ent.refl _ | with_reducible refine Ent.take_eq ?_ ?_ | rfl | with_reducible refine Ent.oR ?_ | with_reducible refine Ent.trans (oR.drop _ _ _) ?_ | with_reducible refine Ent.trans (Ent.drop _ _) ?_)
  · obtain ⟨by', cy, ty, t0, tr, rfl, rfl⟩ := text1 hy (h1 (.inr (.inr (.inl h))))
    simp only [nV]
    rw [nG_some]
    refine sc_lin ([(b3, pts b3 (.cells [bufV fn.length x, .slice (some ⟨by', 0, none⟩) (t0 :: tr).length cy, kv].toArray 88 (0, 0))), (by', pts by' (.cells (strC (t0 :: tr) ++ ty).toArray 9 (0, 0)))]) (llp 0 (llp 1 (llp 2 (llp 3 (llp 4 (llp 5 (lle 6 (llp 7 (lle 8 ll0))))))))) (by kernel_rfl) rfl (by kernel_rfl) ?_
    all_goals (iterate 2 refine go1l ?_)
    all_goals refine sl_take (h := runop_indexN 0 ⟨rfl, by simp⟩) ?_
    all_goals refine sl_take (h := runop_loadAt (.string (sB t0)) rfl) ?_
    all_goals refine sl_take (h := runop_buildR (callC ⟨4, 0, t0, [], [], []⟩) (by kernel_rfl)) ?_
    all_goals refine go1l ?_
    all_goals refine sl_eff ?_
    all_goals (repeat' (first | with_reducible (first | refine go1 ?_ | refine sct ?_ | refine scf ?_ | refine sgr ?_) | with_reducible refine sw_store ?_ | with_reducible refine sw_storePart (actC ⟨1, n0, ⟨4, 0, t0, [], [], []⟩, []⟩ kv) (by simp) (e1 _) ?_ | with_reducible refine sl_back ?_ | fail))
    all_goals refine go1l ?_
    all_goals refine sl_eff ?_
    all_goals (repeat' (first | with_reducible (first | refine go1 ?_ | refine sct ?_ | refine scf ?_ | refine sgr ?_) | with_reducible refine sw_store ?_ | with_reducible refine sw_storePart (actC ⟨1, n0, ⟨4, 0, t0, [], [], []⟩, []⟩ kv) (by simp) (e1 _) ?_ | with_reducible refine sl_back ?_ | fail))
    all_goals refine sl_done ?_
    repeat' (first | with_reducible (first | refine go1 ?_ | refine sct ?_ | refine scf ?_ | refine sgr ?_) | with_reducible refine sw_store_agg ?_ | fail)
    refine sq_resA Tryd.results42 (by first | exact .inl rfl | exact .inr rfl) rfl ?_
    refine ⟨_, ⟨?_, rfl⟩, ?_⟩
    · rw [show s = wDelete from h, A_Delete, if_neg O_Delete]; simp only [hkv, hn0]; rfl
    · refine Ent.trans ?_ (fld_close _ _ _ _ _)
      unfold fldR
      dsimp only
      repeat' (first | with_reducible exact Ent.refl _ | with_reducible refine Ent.take_eq ?_ ?_ | rfl | with_reducible refine Ent.oR ?_ | with_reducible refine Ent.trans (oR.drop _ _ _) ?_ | with_reducible refine Ent.trans (Ent.drop _ _) ?_)
  · obtain ⟨by', cy, ty, t0, t1, tr, rfl, rfl⟩ := text2 hy (h2 (.inr h))
    simp only [nV]
    rw [nG_some]
    refine sc_lin ([(b3, pts b3 (.cells [bufV fn.length x, .slice (some ⟨by', 0, none⟩) (t0 :: t1 :: tr).length cy, kv].toArray 88 (0, 0))), (by', pts by' (.cells (strC (t0 :: t1 :: tr) ++ ty).toArray 9 (0, 0)))]) (llp 0 (llp 1 (llp 2 (llp 3 (llp 4 (llp 5 (llp 6 (llp 7 (llp 8 (llp 9 (llp 10 (lle 11 (llp 12 (lle 13 ll0)))))))))))))) (by kernel_rfl) rfl (by kernel_rfl) ?_
    all_goals (iterate 2 refine go1l ?_)
    all_goals refine sl_take (h := runop_indexN 0 ⟨rfl, by simp⟩) ?_
    all_goals refine sl_take (h := runop_loadAt (.string (sB t0)) rfl) ?_
    all_goals (iterate 2 refine go1l ?_)
    all_goals refine sl_take (h := runop_indexN 1 ⟨rfl, by simp⟩) ?_
    all_goals refine sl_take (h := runop_loadAt (.string (sB t1)) rfl) ?_
    all_goals refine sl_take (h := runop_buildR [.string (sB t0), .string (sB t1)] (by kernel_rfl)) ?_
    all_goals refine sl_take (h := runop_buildR (callC ⟨5, 0, [], [], t0, t1⟩) (by kernel_rfl)) ?_
    all_goals refine go1l ?_
    all_goals refine sl_eff ?_
    all_goals (repeat' (first | with_reducible (first | refine go1 ?_ | refine sct ?_ | refine scf ?_ | refine sgr ?_) | with_reducible refine sw_store ?_ | with_reducible refine sw_storePart (actC ⟨1, n0, ⟨5, 0, [], [], t0, t1⟩, []⟩ kv) (by simp) (e1 _) ?_ | with_reducible refine sl_back ?_ | fail))
    all_goals refine go1l ?_
    all_goals refine sl_eff ?_
    all_goals (repeat' (first | with_reducible (first | refine go1 ?_ | refine sct ?_ | refine scf ?_ | refine sgr ?_) | with_reducible refine sw_store ?_ | with_reducible refine sw_storePart (actC ⟨1, n0, ⟨5, 0, [], [], t0, t1⟩, []⟩ kv) (by simp) (e1 _) ?_ | with_reducible refine sl_back ?_ | fail))
    all_goals refine sl_done ?_
    repeat' (first | with_reducible (first | refine go1 ?_ | refine sct ?_ | refine scf ?_ | refine sgr ?_) | with_reducible refine sw_store_agg ?_ | fail)
    refine sq_resA Tryd.results42 (by first | exact .inl rfl | exact .inr rfl) rfl ?_
    refine ⟨_, ⟨?_, rfl⟩, ?_⟩
    · rw [show s = wScan from h, A_Scan, if_neg O_Scan]; simp only [hkv, hn0]; rfl
    · refine Ent.trans ?_ (fld_close _ _ _ _ _)
      unfold fldR
      dsimp only
      repeat' (first | with_reducible exact Ent.refl _ | with_reducible refine Ent.take_eq ?_ ?_ | rfl | with_reducible refine Ent.oR ?_ | with_reducible refine Ent.trans (oR.drop _ _ _) ?_ | with_reducible refine Ent.trans (Ent.drop _ _) ?_)
  · repeat' (first | with_reducible (first | refine go1 ?_ | refine sct ?_ | refine scf ?_ | refine sgr ?_) | with_reducible refine sw_build (callC ⟨6, 0, [], [], [], []⟩) (by kernel_rfl) ?_ | with_reducible refine sw_store ?_ | with_reducible refine sw_storePart (actC ⟨1, n0, ⟨6, 0, [], [], [], []⟩, []⟩ kv) (by simp) (e1 _) ?_ | with_reducible refine sw_store_agg ?_ | fail)
    refine sq_resA Tryd.results42 (by first | exact .inl rfl | exact .inr rfl) rfl ?_
    refine ⟨_, ⟨?_, rfl⟩, ?_⟩
    · rw [show s = wCommit from h, A_Commit, if_neg O_Commit]; simp only [hkv, hn0]; rfl
    · refine Ent.trans ?_ (fld_close _ _ _ _ _)
      unfold fldR
      dsimp only
      repeat' (first | with_reducible exact Ent.refl _ | with_reducible refine Ent.take_eq ?_ ?_ | rfl | with_reducible refine Ent.oR ?_ | with_reducible refine Ent.trans (oR.drop _ _ _) ?_ | with_reducible refine Ent.trans (Ent.drop _ _) ?_)
  · repeat' (first | with_reducible (first | refine go1 ?_ | refine sct ?_ | refine scf ?_ | refine sgr ?_) | with_reducible refine sw_build (callC ⟨7, 0, [], [], [], []⟩) (by kernel_rfl) ?_ | with_reducible refine sw_store ?_ | with_reducible refine sw_storePart (actC ⟨1, n0, ⟨7, 0, [], [], [], []⟩, []⟩ kv) (by simp) (e1 _) ?_ | with_reducible refine sw_store_agg ?_ | fail)
    refine sq_resA Tryd.results42 (by first | exact .inl rfl | exact .inr rfl) rfl ?_
    refine ⟨_, ⟨?_, rfl⟩, ?_⟩
    · rw [show s = wAbort from h, A_Abort, if_neg O_Abort]; simp only [hkv, hn0]; rfl
    · refine Ent.trans ?_ (fld_close _ _ _ _ _)
      unfold fldR
      dsimp only
      repeat' (first | with_reducible exact Ent.refl _ | with_reducible refine Ent.take_eq ?_ ?_ | rfl | with_reducible refine Ent.oR ?_ | with_reducible refine Ent.trans (oR.drop _ _ _) ?_ | with_reducible refine Ent.trans (Ent.drop _ _) ?_)
  · repeat' (first | with_reducible (first | refine go1 ?_ | refine sct ?_ | refine scf ?_ | refine sgr ?_) | with_reducible refine sw_build (callC ⟨8, 0, [], [], [], []⟩) (by kernel_rfl) ?_ | ((with_reducible refine sw_callf (sActOwn_ok ⟨8, 0, [], [], [], []⟩) ?_); rintro _ _ ⟨rfl, rfl⟩) | with_reducible refine sw_store_agg ?_ | fail)
    refine sq_resA Tryd.results42 (by first | exact .inl rfl | exact .inr rfl) rfl ?_
    refine ⟨_, ⟨?_, rfl⟩, ?_⟩
    · rw [show s = wEpoch from h, A_Epoch, if_pos O_Epoch]; rfl
    · refine Ent.trans ?_ (fld_close _ _ _ _ _)
      unfold fldR
      dsimp only
      repeat' (first | with_reducible exact Ent.refl _ | with_reducible refine Ent.take_eq ?_ ?_ | rfl | with_reducible refine Ent.oR ?_ | with_reducible refine Ent.trans (oR.drop _ _ _) ?_ | with_reducible refine Ent.trans (Ent.drop _ _) ?_)
  · obtain ⟨by', cy, ty, t0, tr, rfl, rfl⟩ := text1 hy (h1 (.inr (.inr (.inr (.inl h)))))
    simp only [nV]
    rw [nG_some]
    repeat' (first | with_reducible (first | refine go1 ?_ | refine sct ?_ | refine scf ?_ | refine sgr ?_) | with_reducible refine sw_idx 0 ⟨rfl, by simp⟩ ?_ | with_reducible refine sw_loadAt (.string (sB t0)) rfl ?_ | with_reducible refine sw_build (callC ⟨9, 0, t0, [], [], []⟩) (by kernel_rfl) ?_ | ((with_reducible refine sw_callf (sActOwn_ok ⟨9, 0, t0, [], [], []⟩) ?_); rintro _ _ ⟨rfl, rfl⟩) | with_reducible refine sw_store_agg ?_ | fail)
    refine sq_resA Tryd.results42 (by first | exact .inl rfl | exact .inr rfl) rfl ?_
    refine ⟨_, ⟨?_, rfl⟩, ?_⟩
    · rw [show s = wPrune from h, A_Prune, if_pos O_Prune]; rfl
    · refine Ent.trans ?_ (fld_close _ _ _ _ _)
      unfold fldR
      dsimp only
      repeat' (first | with_reducible exact Ent.refl _ | with_reducible refine Ent.take_eq ?_ ?_ | rfl | with_reducible refine Ent.oR ?_ | with_reducible refine Ent.trans (oR.drop _ _ _) ?_ | with_reducible refine Ent.trans (Ent.drop _ _) ?_)
  · obtain ⟨by', cy, ty, t0, tr, rfl, rfl⟩ := text1 hy (h1 (.inr (.inr (.inr (.inr h)))))
    simp only [nV]
    rw [nG_some]
    repeat' (first | with_reducible (first | refine go1 ?_ | refine sct ?_ | refine scf ?_ | refine sgr ?_) | with_reducible refine sw_idx 0 ⟨rfl, by simp⟩ ?_ | with_reducible refine sw_loadAt (.string (sB t0)) rfl ?_ | with_reducible refine sw_build (callC ⟨10, 0, t0, [], [], []⟩) (by kernel_rfl) ?_ | ((with_reducible refine sw_callf (sActOwn_ok ⟨10, 0, t0, [], [], []⟩) ?_); rintro _ _ ⟨rfl, rfl⟩) | with_reducible refine sw_store_agg ?_ | fail)
    refine sq_resA Tryd.results42 (by first | exact .inl rfl | exact .inr rfl) rfl ?_
    refine ⟨_, ⟨?_, rfl⟩, ?_⟩
    · rw [show s = wShrink from h, A_Shrink, if_pos O_Shrink]; rfl
    · refine Ent.trans ?_ (fld_close _ _ _ _ _)
      unfold fldR
      dsimp only
      repeat' (first | with_reducible exact Ent.refl _ | with_reducible refine Ent.take_eq ?_ ?_ | rfl | with_reducible refine Ent.oR ?_ | with_reducible refine Ent.trans (oR.drop _ _ _) ?_ | with_reducible refine Ent.trans (Ent.drop _ _) ?_)
  · repeat' (first | with_reducible (first | refine go1 ?_ | refine sct ?_ | refine scf ?_ | refine sgr ?_) | with_reducible refine sw_build (callC ⟨11, 0, [], [], [], []⟩) (by kernel_rfl) ?_ | ((with_reducible refine sw_callf (sActOwn_ok ⟨11, 0, [], [], [], []⟩) ?_); rintro _ _ ⟨rfl, rfl⟩) | with_reducible refine sw_store_agg ?_ | fail)
    refine sq_resA Tryd.results42 (by first | exact .inl rfl | exact .inr rfl) rfl ?_
    refine ⟨_, ⟨?_, rfl⟩, ?_⟩
    · rw [show s = wSave from h, A_Save, if_pos O_Save]; rfl
    · refine Ent.trans ?_ (fld_close _ _ _ _ _)
      unfold fldR
      dsimp only
      repeat' (first | with_reducible exact Ent.refl _ | with_reducible refine Ent.take_eq ?_ ?_ | rfl | with_reducible refine Ent.oR ?_ | with_reducible refine Ent.trans (oR.drop _ _ _) ?_ | with_reducible refine Ent.trans (Ent.drop _ _) ?_)
  · repeat' (first | with_reducible (first | refine go1 ?_ | refine sct ?_ | refine scf ?_ | refine sgr ?_) | with_reducible refine sw_build (callC ⟨12, 0, [], [], [], []⟩) (by kernel_rfl) ?_ | ((with_reducible refine sw_callf (sActOwn_ok ⟨12, 0, [], [], [], []⟩) ?_); rintro _ _ ⟨rfl, rfl⟩) | with_reducible refine sw_store_agg ?_ | fail)
    refine sq_resA Tryd.results42 (by first | exact .inl rfl | exact .inr rfl) rfl ?_
    refine ⟨_, ⟨?_, rfl⟩, ?_⟩
    · rw [show s = wForget from h, A_Forget, if_pos O_Forget]; rfl
    · refine Ent.trans ?_ (fld_close _ _ _ _ _)
      unfold fldR
      dsimp only
      repeat' (first | with_reducible exact Ent.refl _ | with_reducible refine Ent.take_eq ?_ ?_ | rfl | with_reducible refine Ent.oR ?_ | with_reducible refine Ent.trans (oR.drop _ _ _) ?_ | with_reducible refine Ent.trans (Ent.drop _ _) ?_)
  · repeat' (first | with_reducible (first | refine go1 ?_ | refine sct ?_ | refine scf ?_ | refine sgr ?_) | with_reducible refine sw_store ?_ | with_reducible refine sw_store_agg ?_ | fail)
    refine sq_resA Tryd.results42 (by first | exact .inl rfl | exact .inr rfl) rfl ?_
    refine ⟨_, ⟨?_, rfl⟩, ?_⟩
    · rw [show s = wStep from h, A_Step, if_neg O_Step]; simp only [hkv, hn0]; rfl
    · refine Ent.trans ?_ (fld_close _ _ _ _ _)
      unfold fldR
      dsimp only
      repeat' (first | with_reducible exact Ent.refl _ | with_reducible refine Ent.take_eq ?_ ?_ | rfl | with_reducible refine Ent.oR ?_ | with_reducible refine Ent.trans (oR.drop _ _ _) ?_ | with_reducible refine Ent.trans (Ent.drop _ _) ?_)
  · repeat' (first | with_reducible (first | refine go1 ?_ | refine sct ?_ | refine scf ?_ | refine sgr ?_) | with_reducible refine sw_store ?_ | with_reducible refine sw_store_agg ?_ | fail)
    refine sq_resA Tryd.results42 (by first | exact .inl rfl | exact .inr rfl) rfl ?_
    refine ⟨_, ⟨?_, rfl⟩, ?_⟩
    · rw [show s = wPick from h, A_Pick, if_neg O_Pick]; simp only [hkv, hn0]; rfl
    · refine Ent.trans ?_ (fld_close _ _ _ _ _)
      unfold fldR
      dsimp only
      repeat' (first | with_reducible exact Ent.refl _ | with_reducible refine Ent.take_eq ?_ ?_ | rfl | with_reducible refine Ent.oR ?_ | with_reducible refine Ent.trans (oR.drop _ _ _) ?_ | with_reducible refine Ent.trans (Ent.drop _ _) ?_)
  · repeat' (first | with_reducible (first | refine go1 ?_ | refine sct ?_ | refine scf ?_ | refine sgr ?_) | with_reducible refine sw_store ?_ | with_reducible refine sw_store_agg ?_ | fail)
    refine sq_resA Tryd.results42 (by first | exact .inl rfl | exact .inr rfl) rfl ?_
    refine ⟨_, ⟨?_, rfl⟩, ?_⟩
    · rw [show s = wRun from h, A_Run, if_neg O_Run]; simp only [hkv, hn0]; rfl
    · refine Ent.trans ?_ (fld_close _ _ _ _ _)
      unfold fldR
      dsimp only
      repeat' (first | with_reducible exact Ent.refl _ | with_reducible refine Ent.take_eq ?_ ?_ | rfl | with_reducible refine Ent.oR ?_ | with_reducible refine Ent.trans (oR.drop _ _ _) ?_ | with_reducible refine Ent.trans (Ent.drop _ _) ?_)
  · repeat' (first | with_reducible (first | refine go1 ?_ | refine sct ?_ | refine scf ?_ | refine sgr ?_) | with_reducible refine sw_store ?_ | with_reducible refine sw_store_agg ?_ | fail)
    refine sq_resA Tryd.results42 (by first | exact .inl rfl | exact .inr rfl) rfl ?_
    refine ⟨_, ⟨?_, rfl⟩, ?_⟩
    · rw [show s = wAll from h, A_All, if_neg O_All]; simp only [hkv, hn0]; rfl
    · refine Ent.trans ?_ (fld_close _ _ _ _ _)
      unfold fldR
      dsimp only
      repeat' (first | with_reducible exact Ent.refl _ | with_reducible refine Ent.take_eq ?_ ?_ | rfl | with_reducible refine Ent.oR ?_ | with_reducible refine Ent.trans (oR.drop _ _ _) ?_ | with_reducible refine Ent.trans (Ent.drop _ _) ?_)
  · repeat' (first | with_reducible (first | refine go1 ?_ | refine sct ?_ | refine scf ?_ | refine sgr ?_) | with_reducible refine sw_store ?_ | with_reducible refine sw_store_agg ?_ | fail)
    refine sq_resA Tryd.results42 (by first | exact .inl rfl | exact .inr rfl) rfl ?_
    refine ⟨_, ⟨?_, rfl⟩, ?_⟩
    · rw [show s = wCrash from h, A_Crash, if_neg O_Crash]; simp only [hkv, hn0]; rfl
    · refine Ent.trans ?_ (fld_close _ _ _ _ _)
      unfold fldR
      dsimp only
      repeat' (first | with_reducible exact Ent.refl _ | with_reducible refine Ent.take_eq ?_ ?_ | rfl | with_reducible refine Ent.oR ?_ | with_reducible refine Ent.trans (oR.drop _ _ _) ?_ | with_reducible refine Ent.trans (Ent.drop _ _) ?_)
  · repeat' (first | with_reducible (first | refine go1 ?_ | refine sct ?_ | refine scf ?_ | refine sgr ?_) | with_reducible refine sw_store ?_ | with_reducible refine sw_store_agg ?_ | fail)
    refine sq_resA Tryd.results42 (by first | exact .inl rfl | exact .inr rfl) rfl ?_
    refine ⟨_, ⟨?_, rfl⟩, ?_⟩
    · rw [show s = wFuse from h, A_Fuse, if_neg O_Fuse]; simp only [hkv, hn0]; rfl
    · refine Ent.trans ?_ (fld_close _ _ _ _ _)
      unfold fldR
      dsimp only
      repeat' (first | with_reducible exact Ent.refl _ | with_reducible refine Ent.take_eq ?_ ?_ | rfl | with_reducible refine Ent.oR ?_ | with_reducible refine Ent.trans (oR.drop _ _ _) ?_ | with_reducible refine Ent.trans (Ent.drop _ _) ?_)
  · repeat' (first | with_reducible (first | refine go1 ?_ | refine sct ?_ | refine scf ?_ | refine sgr ?_) | with_reducible refine sw_store ?_ | with_reducible refine sw_store_agg ?_ | fail)
    refine sq_resA Tryd.results42 (by first | exact .inl rfl | exact .inr rfl) rfl ?_
    refine ⟨_, ⟨?_, rfl⟩, ?_⟩
    · rw [show s = wRestart from h, A_Restart, if_neg O_Restart]; simp only [hkv, hn0]; rfl
    · refine Ent.trans ?_ (fld_close _ _ _ _ _)
      unfold fldR
      dsimp only
      repeat' (first | with_reducible exact Ent.refl _ | with_reducible refine Ent.take_eq ?_ ?_ | rfl | with_reducible refine Ent.oR ?_ | with_reducible refine Ent.trans (oR.drop _ _ _) ?_ | with_reducible refine Ent.trans (Ent.drop _ _) ?_)
  · repeat' (first | with_reducible (first | refine go1 ?_ | refine sct ?_ | refine scf ?_ | refine sgr ?_) | with_reducible refine sw_store ?_ | with_reducible refine sw_store_agg ?_ | fail)
    refine sq_resA Tryd.results42 (by first | exact .inl rfl | exact .inr rfl) rfl ?_
    refine ⟨_, ⟨?_, rfl⟩, ?_⟩
    · rw [A_else fn ft fk (by assumption) (by assumption) (by assumption) (by assumption) (by assumption) (by assumption) (by assumption) (by assumption) (by assumption) (by assumption) (by assumption) (by assumption) (by assumption) (by assumption) (by assumption) (by assumption) (by assumption) (by assumption) (by assumption), if_neg (O_else (by assumption) (by assumption) (by assumption) (by assumption) (by assumption))]; simp only [hkv, hn0]; rfl
    · refine Ent.trans ?_ (fld_close _ _ _ _ _)
      unfold fldR
      dsimp only
      repeat' (first | with_reducible exact Ent.refl _ | with_reducible refine Ent.take_eq ?_ ?_ | rfl | with_reducible refine Ent.oR ?_ | with_reducible refine Ent.trans (oR.drop _ _ _) ?_ | with_reducible refine Ent.trans (Ent.drop _ _) ?_)
theorem act_k (s : Bs) (f : Flds) : (actOf s f).k = if isOwn s then [] else f.k := by
  obtain ⟨n, t, k⟩ := f
  by_cases h0 : s = wBegin
  · rw [h0, A_Begin, if_neg O_Begin]
  by_cases h1 : s = wGet
  · rw [h1, A_Get, if_neg O_Get]
  by_cases h2 : s = wPut
  · rw [h2, A_Put, if_neg O_Put]
  by_cases h3 : s = wDelete
  · rw [h3, A_Delete, if_neg O_Delete]
  by_cases h4 : s = wScan
  · rw [h4, A_Scan, if_neg O_Scan]
  by_cases h5 : s = wCommit
  · rw [h5, A_Commit, if_neg O_Commit]
  by_cases h6 : s = wAbort
  · rw [h6, A_Abort, if_neg O_Abort]
  by_cases h7 : s = wEpoch
  · rw [h7, A_Epoch, if_pos O_Epoch]
  by_cases h8 : s = wPrune
  · rw [h8, A_Prune, if_pos O_Prune]
  by_cases h9 : s = wShrink
  · rw [h9, A_Shrink, if_pos O_Shrink]
  by_cases h10 : s = wSave
  · rw [h10, A_Save, if_pos O_Save]
  by_cases h11 : s = wForget
  · rw [h11, A_Forget, if_pos O_Forget]
  by_cases h12 : s = wStep
  · rw [h12, A_Step, if_neg O_Step]
  by_cases h13 : s = wPick
  · rw [h13, A_Pick, if_neg O_Pick]
  by_cases h14 : s = wRun
  · rw [h14, A_Run, if_neg O_Run]
  by_cases h15 : s = wAll
  · rw [h15, A_All, if_neg O_All]
  by_cases h16 : s = wCrash
  · rw [h16, A_Crash, if_neg O_Crash]
  by_cases h17 : s = wFuse
  · rw [h17, A_Fuse, if_neg O_Fuse]
  by_cases h18 : s = wRestart
  · rw [h18, A_Restart, if_neg O_Restart]
  rw [A_else n t k h0 h1 h2 h3 h4 h5 h6 h7 h8 h9 h10 h11 h12 h13 h14 h15 h16 h17 h18, if_neg (O_else h7 h8 h9 h10 h11)]

/-- what an act keeps -/
def keepO (s : Bs) (z : Option (Nat × Nat × List Value)) : Option (Nat × Nat × List Value) := if isOwn s then none else z
theorem keep_v (s : Bs) (f : Flds) (z : Option (Nat × Nat × List Value)) : (if isOwn s then .slice none 0 0 else nV f.k.length z) = nV (actOf s f).k.length (keepO s z) := by
  rw [act_k]; unfold keepO
  by_cases h : isOwn s
  · simp only [if_pos h]; rfl
  · simp only [if_neg h]
theorem keep_ent (s : Bs) (f : Flds) (x : Option (Nat × List Value)) (y z : Option (Nat × Nat × List Value)) (F : List Res) : Ent ((7010, FLD f x y z) :: F) (oR (nG 4 (boolC (actOf s f).k)) F (keepO s z)) := by
  rw [act_k]; unfold keepO
  by_cases h : isOwn s
  · simp only [if_pos h]; exact Ent.drop _ _
  · simp only [if_neg h]
    exact (fld_open f x y z F).trans ((oR.drop _ _ _).trans (oR.drop _ _ _))
end Go.Gsl

namespace Go.Gsl
set_option linter.unusedVariables false
open Go.Proofs

/-- acts, and the rows of what they keep -/
abbrev AK := Act × Option (Nat × Nat × List Value)
abbrev AK.cs (p : AK) : List Value := actC p.1 (nV p.1.k.length p.2)
def akC (l : List AK) : List Value := l.flatMap AK.cs
theorem akC_app (l m : List AK) : akC (l ++ m) = akC l ++ akC m := by unfold akC; simp
theorem akC_one (p : AK) : akC [p] = p.cs := by simp [akC]
theorem akC_len : ∀ l : List AK, (akC l).length = l.length * 9
  | [] => rfl
  | x :: l => by
    show (x.cs ++ akC l).length = _
    have h1 : (x :: l).length = l.length + 1 := rfl
    have h2 : x.cs.length = 9 := rfl
    rw [List.length_append, akC_len l, h1, h2]
    omega
def kR (l : List AK) (F : List Res) : List Res := l.foldr (fun p F => oR (nG 4 (boolC p.1.k)) F p.2) F
theorem oR_app {α : Type} (g : α → Res) (A B : List Res) (o : Option α) : oR g (A ++ B) o = oR g A o ++ B := by cases o <;> rfl
theorem kR_app : ∀ (l : List AK) (A B : List Res), kR l (A ++ B) = kR l A ++ B
  | [], _, _ => rfl
  | p :: l, A, B => by
    show oR _ (kR l (A ++ B)) _ = oR _ (kR l A) _ ++ B
    rw [kR_app l, oR_app]
theorem oR_close {α : Type} (k : Nat) (g : α → Res) (F : List Res) (o : Option α) : Ent (oR g F o) ((k, hall (oR g [] o)) :: F) := by
  have h : oR g F o = oR g [] o ++ F := by rw [← oR_app, List.nil_append]
  rw [h]; exact Ent.hall_close _ _ _
/-- the rows that acts keep -/
def KP (l : List AK) : HProp := hall (kR l [])
theorem kp_add (l : List AK) (a : Act) (z : Option (Nat × Nat × List Value)) (F : List Res) : Ent ((7011, KP l) :: oR (nG 4 (boolC a.k)) F z) ((7011, KP (l ++ [(a, z)])) :: F) := by
  refine (Ent.hall_open 7011 (kR l []) _).trans ?_
  have h : kR l [] ++ oR (nG 4 (boolC a.k)) F z = kR (l ++ [(a, z)]) [] ++ F := by
    rw [← kR_app, List.nil_append, ← kR_app, List.nil_append]
    unfold kR
    rw [List.foldr_append]
    rfl
  rw [h]
  exact Ent.hall_close _ _ _
/-- a reader's cells -/
abbrev rdrC (c : List Int) (v : Value) (y : Bool) : List Value := [.int .i64 (c.getD 0 0), .int .i64 (c.getD 1 0), .int .i64 (c.getD 2 0), .int .i64 (c.getD 3 0), .int .i64 (c.getD 4 0), .int .i64 (c.getD 5 0), .int .i64 (c.getD 6 0), v, .bool y]

section
variable (w : World)
set_option maxRecDepth 20000 in
theorem eqWord (d : Nat) (a b : Bs) (p q : Bool) : (Op.equalIn (d + 2) 96 (.agg #[.string (sB a), .bool p]) (.agg #[.string (sB b), .bool q])).run Tryd.prog w = .ok (decide (a = b) && ((p == q) && true)) w := by
  have hf := fieldsOf_und Tryd.underlying96
  have hs : decide (a = b) = ((sB a).toList == (sB b).toList) := by rw [sB_toList, sB_toList]; by_cases h : a = b <;> simp [h]
  rw [run_equalIn_struct w (d + 1) _ _ _ (by rw [hf]; exact Tryd.underlying96) (by kernel_rfl), hf, hs]
  refine eqF_step w (by decide) (part_one w (v := .string (sB a)) rfl) (part_one w (v := .string (sB b)) rfl) (run_equalIn_string w d _ _ _ Tryd.underlying9) ?_
  refine eqF_step w (by decide) (part_one w (v := .bool p) rfl) (part_one w (v := .bool q) rfl) (run_equalIn_bool (t := 4) d p q w) ?_
  exact eqF_nil w _ _ _
instance EqAgg.word (a b : Bs) (p q : Bool) : EqAgg Tryd.prog 96 [.string ⟨a.toArray⟩, .bool p] [.string ⟨b.toArray⟩, .bool q] (decide (a = b) && ((p == q) && true)) :=
  ⟨fun w => eqWord w 9998 a b p q, by kernel_rfl⟩
end

/-- what keeps nothing has no row, nor keeps -/
def AkN (l : List AK) : Prop := ∀ p ∈ l, p.2 = none → p.1.k = []
theorem AkN.nil : AkN [] := fun p h => by cases h
theorem AkN.app {l : List AK} (h : AkN l) {a : Act} {z : Option (Nat × Nat × List Value)} (hz : z = none → a.k = []) : AkN (l ++ [(a, z)]) := by
  intro p hp
  rcases List.mem_append.1 hp with hp | hp
  · exact h p hp
  · simp only [List.mem_cons, List.not_mem_nil, or_false] at hp
    subst hp; exact hz
theorem keep_none {s : Bs} {f : Flds} {z : Option (Nat × Nat × List Value)} (hz : NOk 1 (boolC f.k) f.k.length z) (h : keepO s z = none) : (actOf s f).k = [] := by
  rw [act_k]
  unfold keepO at h
  by_cases g : isOwn s
  · rw [if_pos g]
  · rw [if_neg g] at h ⊢
    exact List.length_eq_zero_iff.1 (hz.2.1 h).2
set_option maxHeartbeats 4000000 in
theorem sTake_ok (W : World) (hT : Tabs Tryd.prog W) (p : Nat) (s : Bs) (hs : s.length ≤ 1073741824) (co : Option (List Int)) (l : List AK) (o : Option (Nat × Nat × List Value)) (hN : NOk 9 (akC l) l.length o) (hl : l.length ≤ 4096) (hA : AkN l) :
    SpecP Tryd.prog 26 [.pointer (some ⟨p, 0, none⟩), .string (sB s)] [0, p, 7011, 7012] [ro W, pts p (.cells (rdrC (co.getD []) (nV l.length o) co.isSome).toArray 55 (0, 0)), KP l, hall (oR (nG 46 (akC l)) [] o)]
    (fun F v Rs' => ∃ co' l' o', takeS ⟨co, l.map Prod.fst⟩ s = .ok ⟨co', l'.map Prod.fst⟩ ∧ NOk 9 (akC l') l'.length o' ∧ l'.length ≤ 4096 ∧ AkN l' ∧ v = .tuple #[] ∧
      Rs' = (0, ro W) :: (p, pts p (.cells (rdrC (co'.getD []) (nV l'.length o') co'.isSome).toArray 55 (0, 0))) :: (7011, KP l') :: (7012, hall (oR (nG 46 (akC l')) [] o')) :: F)
    (fun F v Rs' => ∃ er, takeS ⟨co, l.map Prod.fst⟩ s = .error er ∧ v = .iface 27 (.int .i64 er) ∧ Rs' = (0, ro W) :: F) := by
  have hW := sWords_ok s hs
  refine spec_ofP Tryd.func26 rfl Tryd.ntmps26 rfl ?_
  intro w0 F
  repeat' (first | with_reducible (first | refine go1 ?_ | refine sct ?_ | refine scf ?_ | refine sgr ?_) | fail)
  refine sw_callP hW ?_ ?_
  rotate_left
  · rintro _ _ ⟨hw, rfl, rfl⟩
    repeat' (first | with_reducible (first | refine go1 ?_ | refine sct ?_ | refine scf ?_ | refine sgr ?_) | fail)
    refine sqx_pan ⟨_, ⟨261, by unfold takeS; rw [hw], rfl, rfl⟩, ?_⟩
    repeat' (first | with_reducible exact Ent.refl _ | with_reducible refine Ent.take_eq ?_ ?_ | rfl | with_reducible refine Ent.oR ?_ | with_reducible refine Ent.trans (oR.drop _ _ _) ?_ | with_reducible refine Ent.trans (Ent.drop _ _) ?_)
  rintro _ _ ⟨tl, ot, hw, hNt, rfl, rfl⟩
  have hnl : ot = none → tl.length = 0 := fun h => (hNt.2.1 h).2
  cases tl with
  | nil =>
    repeat' (first | with_reducible (first | refine go1 ?_ | refine sct ?_ | refine scf ?_ | refine sgr ?_) | with_reducible refine sw_op (h := runop_lenNV ot hnl) ?_ | (with_reducible refine sc_cond (fun h => ?_) (fun h => ?_)) <;> (try (exfalso; first | contradiction | omega | exact h Iff.rfl)) | fail)
    all_goals (first | (exfalso; rename_i h; exact h rfl) | skip)
    refine sqx ?_
    refine sq_ret0 Tryd.results26 ?_
    refine ⟨_, ⟨co, l, o, by unfold takeS; rw [hw], hN, hl, hA, rfl, rfl⟩, ?_⟩
    repeat' (first | with_reducible exact Ent.refl _ | with_reducible refine Ent.take_eq ?_ ?_ | rfl | with_reducible refine Ent.oR ?_ | with_reducible refine Ent.trans (oR.drop _ _ _) ?_ | with_reducible refine Ent.trans (Ent.drop _ _) ?_)
  | cons w ws =>
    cases ot with
    | none => have := hnl rfl; simp at this
    | some bt =>
      obtain ⟨b, c, t⟩ := bt
      have hlen : (w :: ws).length = ws.length + 1 := rfl
      have h2 := hNt.2.2 b c t rfl
      have hcells : Reads (pts b (.cells (tokC (w :: ws) ++ t).toArray 96 (0, 0))) (some ⟨b, 0, none⟩) (tokC (w :: ws) ++ t) := reads_pts fun j v hj => by rw [Nat.zero_add]; exact hj
      have hw2 : ((tokC (w :: ws) ++ t).drop (0 * 2)).take 2 = w.cs := rfl
      have hwl : w.cs.length = 2 := rfl
      rw [show nV (w :: ws).length (some (b, c, t)) = .slice (some ⟨b, 0, none⟩) (w :: ws).length c from rfl]
      rw [nG_some]
      obtain ⟨hb1, hb2⟩ := words_bound _ _ _ (Nat.le_refl _) hw
      have hfits := sFits_ok W hT w ws b c t (by omega) fun x hx => by have := hb2 x hx; omega
      obtain ⟨st, hst⟩ : ∃ st, (decide (w.s = wStore) && (w.t == false && true)) = st := ⟨_, rfl⟩
      have hE : EqAgg Tryd.prog 96 [.string ⟨w.s.toArray⟩, .bool w.t] [.string ⟨wStore.toArray⟩, .bool false] st := by rw [← hst]; infer_instance
      have htk : takeS ⟨co, l.map Prod.fst⟩ s = (if co.isNone ∧ st = false then .error 263
        else if co.isSome ∧ st = true then .error 260
        else match fitsOf (w :: ws) with
          | .error e => .error e
          | .ok f =>
            if st then .ok { c := some f.n, a := l.map Prod.fst }
            else if 4096 ≤ (l.map Prod.fst).length then .error 3
            else .ok { c := co, a := l.map Prod.fst ++ [actOf w.s f] }) := by
        have h3 : decide (w = ⟨wStore, false⟩) = st := by
          rw [← hst]
          obtain ⟨x, y⟩ := w
          cases y <;> by_cases h : x = wStore <;> simp [h]
        unfold takeS
        rw [hw]
        simp only [h3]
        rfl
      cases st with
      | false =>
        cases co with
        | none =>
          simp only [Option.isSome_none, Option.isSome_some, Option.getD_none, Option.getD_some, Option.isNone_none, Option.isNone_some] at htk ⊢
          repeat' (first | with_reducible (first | refine go1 ?_ | refine sct ?_ | refine scf ?_ | refine sgr ?_) | with_reducible refine sw_indexN 0 ⟨by omega, by omega⟩ ?_ | with_reducible refine sw_load_aggR b (0 * 2) w.cs hcells hwl hw2 (by omega) ?_ | with_reducible refine sw_build (Tok.cs ⟨wStore, false⟩) (by kernel_rfl) ?_ | with_reducible refine sw_panic ?_ | with_reducible refine sw_guard_skip_u ?_ | (with_reducible refine sc_cond (fun h => ?_) (fun h => ?_)) <;> (try (exfalso; first | contradiction | omega | exact h Iff.rfl)) | (with_reducible refine sw_guard_split (fun h => ?_) (fun h => ?_)) <;> (try (exfalso; first | contradiction | omega | exact h Iff.rfl)) | (with_reducible refine sw_pick (fun h => ?_) (fun h => ?_)) <;> (try (exfalso; first | contradiction | omega | exact h Iff.rfl)) | fail)
          exact sqx_pan ⟨_, ⟨263, by rw [htk]; simp, rfl, rfl⟩, by repeat' (first | with_reducible exact Ent.refl _ | with_reducible refine Ent.take_eq ?_ ?_ | rfl | with_reducible refine Ent.oR ?_ | with_reducible refine Ent.trans (oR.drop _ _ _) ?_ | with_reducible refine Ent.trans (Ent.drop _ _) ?_)⟩
        | some cf =>
          simp only [Option.isSome_none, Option.isSome_some, Option.getD_none, Option.getD_some, Option.isNone_none, Option.isNone_some] at htk ⊢
          repeat' (first | with_reducible (first | refine go1 ?_ | refine sct ?_ | refine scf ?_ | refine sgr ?_) | with_reducible refine sw_indexN 0 ⟨by omega, by omega⟩ ?_ | with_reducible refine sw_load_aggR b (0 * 2) w.cs hcells hwl hw2 (by omega) ?_ | with_reducible refine sw_build (Tok.cs ⟨wStore, false⟩) (by kernel_rfl) ?_ | with_reducible refine sw_panic ?_ | with_reducible refine sw_guard_skip_u ?_ | (with_reducible refine sc_cond (fun h => ?_) (fun h => ?_)) <;> (try (exfalso; first | contradiction | omega | exact h Iff.rfl)) | (with_reducible refine sw_guard_split (fun h => ?_) (fun h => ?_)) <;> (try (exfalso; first | contradiction | omega | exact h Iff.rfl)) | (with_reducible refine sw_pick (fun h => ?_) (fun h => ?_)) <;> (try (exfalso; first | contradiction | omega | exact h Iff.rfl)) | fail)
          refine sw_callP hfits ?_ ?_
          rotate_left
          · rintro _ _ ⟨er, he, rfl, rfl⟩
            repeat' (first | with_reducible (first | refine go1 ?_ | refine sct ?_ | refine scf ?_ | refine sgr ?_) | fail)
            exact sqx_pan ⟨_, ⟨er, by rw [htk, he]; simp, rfl, rfl⟩, by repeat' (first | with_reducible exact Ent.refl _ | with_reducible refine Ent.take_eq ?_ ?_ | rfl | with_reducible refine Ent.oR ?_ | with_reducible refine Ent.trans (oR.drop _ _ _) ?_ | with_reducible refine Ent.trans (Ent.drop _ _) ?_)⟩
          rintro _ _ ⟨f, x, y, z, hf, ⟨hx, hy, hz⟩, rfl, rfl⟩
          unfold fldV fldR
          repeat' (first | with_reducible (first | refine go1 ?_ | refine sct ?_ | refine scf ?_ | refine sgr ?_) | with_reducible refine sw_alloc fun b6 => ?_ | with_reducible refine sw_store_agg ?_ | (with_reducible refine sc_cond (fun h => ?_) (fun h => ?_)) <;> (try (exfalso; first | contradiction | omega | exact h Iff.rfl)) | fail)
          have hno : o = none → l.length = 0 := fun h => (hN.2.1 h).2
          repeat' (first | with_reducible (first | refine go1 ?_ | refine sct ?_ | refine scf ?_ | refine sgr ?_) | with_reducible refine sw_op (h := runop_lenNV o hno) ?_ | with_reducible refine sw_panic ?_ | (with_reducible refine sc_cond (fun h => ?_) (fun h => ?_)) <;> (try (exfalso; first | contradiction | omega | exact h Iff.rfl)) | fail)
          · exact sqx_pan ⟨_, ⟨3, by rw [htk, hf]; simp; omega, rfl, rfl⟩, by repeat' (first | with_reducible exact Ent.refl _ | with_reducible refine Ent.take_eq ?_ ?_ | rfl | with_reducible refine Ent.oR ?_ | with_reducible refine Ent.trans (oR.drop _ _ _) ?_ | with_reducible refine Ent.trans (Ent.drop _ _) ?_)⟩
          have hAct := sAct_ok w.s f x y z ⟨hx, hy, hz⟩ (fits_t1 hf) (fits_t2 hf)
          rw [keep_v] at hAct
          have hk1 := keep_ent w.s f x y z
          have hkn := keep_none (s := w.s) (f := f) (z := z) hz
          obtain ⟨a, ha⟩ : ∃ a, actOf w.s f = a := ⟨_, rfl⟩
          obtain ⟨z', hz'⟩ : ∃ z', keepO w.s z = z' := ⟨_, rfl⟩
          rw [ha, hz'] at hAct hk1 hkn
          unfold fldV at hAct
          have hs0 : (tokC (w :: ws) ++ t)[0 + 0 * 2 + 0]? = some (.string (sB w.s)) := tokC_s (w :: ws) t 0 (by omega)
          have hsl : (AK.cs (a, z')).length = 9 := rfl
          have hone : ∀ v ∈ AK.cs (a, z'), v.oneCell' = true := by
            intro v hv
            simp only [List.mem_cons, List.not_mem_nil, or_false] at hv
            rcases hv with rfl | rfl | rfl | rfl | rfl | rfl | rfl | rfl | rfl <;> first | rfl | (cases z' <;> rfl)
          have hlt : l.length < 4096 := by omega
          refine sc_ent (Ent.cons _ (fld_close f x y z _)) ?_
          refine sc_hall 7012 ?_
          rw [← oR_app, List.nil_append]
          refine sc_drawC (m := 18) ([(b, pts b (.cells (tokC (w :: ws) ++ t).toArray 96 (0, 0))), (b6, pts b6 (.cells [bufV f.n.length x, nV f.t.length y, nV f.k.length z].toArray 88 (0, 0)))]) CalmC.out (by kernel_rfl) rfl (fun hcalm => ?_)
          all_goals (first | refine sg_take 0 hcalm rfl (by kernel_rfl) (by kernel_rfl) (by kernel_rfl) ?_)
          all_goals (first | refine sg_take 1 hcalm rfl (by kernel_rfl) (by kernel_rfl) (by kernel_rfl) ?_)
          all_goals (first | refine sg_take 2 hcalm rfl (by kernel_rfl) (by kernel_rfl) (by kernel_rfl) ?_)
          all_goals (first | refine sg_take 3 hcalm rfl (by kernel_rfl) (by kernel_rfl) (by kernel_rfl) ?_)
          all_goals (first | refine sg_take 4 hcalm rfl (by kernel_rfl) (by kernel_rfl) (by kernel_rfl) ?_)
          all_goals (first | refine sg_take 6 hcalm rfl (by kernel_rfl) (by kernel_rfl) (by kernel_rfl) ?_)
          all_goals (first | refine sg_take 7 hcalm rfl (by kernel_rfl) (by kernel_rfl) (by kernel_rfl) (h := runop_indexN 0 ⟨by omega, by omega⟩) ?_ | refine sg_take 7 hcalm rfl (by kernel_rfl) (by kernel_rfl) (by kernel_rfl) ?_)
          all_goals (first | refine sg_take 8 hcalm rfl (by kernel_rfl) (by kernel_rfl) (by kernel_rfl) ?_)
          all_goals (first | refine sg_take 9 hcalm rfl (by kernel_rfl) (by kernel_rfl) (by kernel_rfl) (h := runop_loadAt (.string (sB w.s)) hs0) ?_ | refine sg_take 9 hcalm rfl (by kernel_rfl) (by kernel_rfl) (by kernel_rfl) ?_)
          all_goals (first | refine sg_take 10 hcalm rfl (by kernel_rfl) (by kernel_rfl) (by kernel_rfl) ?_)
          refine sg_two 5 11 rfl rfl (by kernel_rfl) rfl ?g1a ?g1b
          case' g1a =>
            all_goals (repeat' (first | with_reducible (first | refine go1 ?_ | refine sct ?_ | refine scf ?_ | refine sgr ?_) | ((with_reducible refine sw_callf hAct ?_); rintro _ _ ⟨rfl, rfl⟩) | with_reducible refine sw_buildSliceN (AK.cs (a, z')) ⟨by omega, by omega, by omega⟩ (by kernel_rfl) fun b8 => ?_ | with_reducible refine sw_appendNV (sz := 9) (b7 := b8) (akC l) (AK.cs (a, z')) l.length o hN hone (by kernel_rfl) (by omega) ⟨hsl, by omega, by omega⟩ fun o' ho' hN' => ?_ | with_reducible refine sw_store ?_ | with_reducible refine sg_back ?_ | fail))
            all_goals (refine sg_one 11 rfl (by kernel_rfl) rfl ?_)
            all_goals (repeat' (first | with_reducible (first | refine go1 ?_ | refine sct ?_ | refine scf ?_ | refine sgr ?_) | ((with_reducible refine sw_callf hAct ?_); rintro _ _ ⟨rfl, rfl⟩) | with_reducible refine sw_buildSliceN (AK.cs (a, z')) ⟨by omega, by omega, by omega⟩ (by kernel_rfl) fun b8 => ?_ | with_reducible refine sw_appendNV (sz := 9) (b7 := b8) (akC l) (AK.cs (a, z')) l.length o hN hone (by kernel_rfl) (by omega) ⟨hsl, by omega, by omega⟩ fun o' ho' hN' => ?_ | with_reducible refine sw_store ?_ | with_reducible refine sg_back ?_ | fail))
            all_goals (refine sg_one 12 rfl (by kernel_rfl) rfl ?_)
            all_goals (repeat' (first | with_reducible (first | refine go1 ?_ | refine sct ?_ | refine scf ?_ | refine sgr ?_) | ((with_reducible refine sw_callf hAct ?_); rintro _ _ ⟨rfl, rfl⟩) | with_reducible refine sw_buildSliceN (AK.cs (a, z')) ⟨by omega, by omega, by omega⟩ (by kernel_rfl) fun b8 => ?_ | with_reducible refine sw_appendNV (sz := 9) (b7 := b8) (akC l) (AK.cs (a, z')) l.length o hN hone (by kernel_rfl) (by omega) ⟨hsl, by omega, by omega⟩ fun o' ho' hN' => ?_ | with_reducible refine sw_store ?_ | with_reducible refine sg_back ?_ | fail))
            all_goals (refine sg_one 13 rfl (by kernel_rfl) rfl ?_)
            all_goals (repeat' (first | with_reducible (first | refine go1 ?_ | refine sct ?_ | refine scf ?_ | refine sgr ?_) | ((with_reducible refine sw_callf hAct ?_); rintro _ _ ⟨rfl, rfl⟩) | with_reducible refine sw_buildSliceN (AK.cs (a, z')) ⟨by omega, by omega, by omega⟩ (by kernel_rfl) fun b8 => ?_ | with_reducible refine sw_appendNV (sz := 9) (b7 := b8) (akC l) (AK.cs (a, z')) l.length o hN hone (by kernel_rfl) (by omega) ⟨hsl, by omega, by omega⟩ fun o' ho' hN' => ?_ | with_reducible refine sw_store ?_ | with_reducible refine sg_back ?_ | fail))
            all_goals (first | refine sg_take 14 hcalm rfl (by kernel_rfl) (by kernel_rfl) (by kernel_rfl) ?_)
            all_goals (first | refine sg_take 15 hcalm rfl (by kernel_rfl) (by kernel_rfl) (by kernel_rfl) ?_)
            all_goals (first | refine sg_take 16 hcalm rfl (by kernel_rfl) (by kernel_rfl) (by kernel_rfl) ?_)
            all_goals (refine sg_one 17 rfl (by kernel_rfl) rfl ?_)
            all_goals (repeat' (first | with_reducible (first | refine go1 ?_ | refine sct ?_ | refine scf ?_ | refine sgr ?_) | ((with_reducible refine sw_callf hAct ?_); rintro _ _ ⟨rfl, rfl⟩) | with_reducible refine sw_buildSliceN (AK.cs (a, z')) ⟨by omega, by omega, by omega⟩ (by kernel_rfl) fun b8 => ?_ | with_reducible refine sw_appendNV (sz := 9) (b7 := b8) (akC l) (AK.cs (a, z')) l.length o hN hone (by kernel_rfl) (by omega) ⟨hsl, by omega, by omega⟩ fun o' ho' hN' => ?_ | with_reducible refine sw_store ?_ | with_reducible refine sg_back ?_ | fail))
            all_goals (refine sg_done (by kernel_rfl) rfl ?_)
          case' g1b =>
            all_goals (repeat' (first | with_reducible (first | refine go1 ?_ | refine sct ?_ | refine scf ?_ | refine sgr ?_) | ((with_reducible refine sw_callf hAct ?_); rintro _ _ ⟨rfl, rfl⟩) | with_reducible refine sw_buildSliceN (AK.cs (a, z')) ⟨by omega, by omega, by omega⟩ (by kernel_rfl) fun b8 => ?_ | with_reducible refine sw_appendNV (sz := 9) (b7 := b8) (akC l) (AK.cs (a, z')) l.length o hN hone (by kernel_rfl) (by omega) ⟨hsl, by omega, by omega⟩ fun o' ho' hN' => ?_ | with_reducible refine sw_store ?_ | with_reducible refine sg_back ?_ | fail))
            refine sg_two 5 12 rfl rfl (by kernel_rfl) rfl ?g2a ?g2b
            case' g2a =>
              all_goals (repeat' (first | with_reducible (first | refine go1 ?_ | refine sct ?_ | refine scf ?_ | refine sgr ?_) | ((with_reducible refine sw_callf hAct ?_); rintro _ _ ⟨rfl, rfl⟩) | with_reducible refine sw_buildSliceN (AK.cs (a, z')) ⟨by omega, by omega, by omega⟩ (by kernel_rfl) fun b8 => ?_ | with_reducible refine sw_appendNV (sz := 9) (b7 := b8) (akC l) (AK.cs (a, z')) l.length o hN hone (by kernel_rfl) (by omega) ⟨hsl, by omega, by omega⟩ fun o' ho' hN' => ?_ | with_reducible refine sw_store ?_ | with_reducible refine sg_back ?_ | fail))
              all_goals (refine sg_one 12 rfl (by kernel_rfl) rfl ?_)
              all_goals (repeat' (first | with_reducible (first | refine go1 ?_ | refine sct ?_ | refine scf ?_ | refine sgr ?_) | ((with_reducible refine sw_callf hAct ?_); rintro _ _ ⟨rfl, rfl⟩) | with_reducible refine sw_buildSliceN (AK.cs (a, z')) ⟨by omega, by omega, by omega⟩ (by kernel_rfl) fun b8 => ?_ | with_reducible refine sw_appendNV (sz := 9) (b7 := b8) (akC l) (AK.cs (a, z')) l.length o hN hone (by kernel_rfl) (by omega) ⟨hsl, by omega, by omega⟩ fun o' ho' hN' => ?_ | with_reducible refine sw_store ?_ | with_reducible refine sg_back ?_ | fail))
              all_goals (refine sg_one 13 rfl (by kernel_rfl) rfl ?_)
              all_goals (repeat' (first | with_reducible (first | refine go1 ?_ | refine sct ?_ | refine scf ?_ | refine sgr ?_) | ((with_reducible refine sw_callf hAct ?_); rintro _ _ ⟨rfl, rfl⟩) | with_reducible refine sw_buildSliceN (AK.cs (a, z')) ⟨by omega, by omega, by omega⟩ (by kernel_rfl) fun b8 => ?_ | with_reducible refine sw_appendNV (sz := 9) (b7 := b8) (akC l) (AK.cs (a, z')) l.length o hN hone (by kernel_rfl) (by omega) ⟨hsl, by omega, by omega⟩ fun o' ho' hN' => ?_ | with_reducible refine sw_store ?_ | with_reducible refine sg_back ?_ | fail))
              all_goals (first | refine sg_take 14 hcalm rfl (by kernel_rfl) (by kernel_rfl) (by kernel_rfl) ?_)
              all_goals (first | refine sg_take 15 hcalm rfl (by kernel_rfl) (by kernel_rfl) (by kernel_rfl) ?_)
              all_goals (first | refine sg_take 16 hcalm rfl (by kernel_rfl) (by kernel_rfl) (by kernel_rfl) ?_)
              all_goals (refine sg_one 17 rfl (by kernel_rfl) rfl ?_)
              all_goals (repeat' (first | with_reducible (first | refine go1 ?_ | refine sct ?_ | refine scf ?_ | refine sgr ?_) | ((with_reducible refine sw_callf hAct ?_); rintro _ _ ⟨rfl, rfl⟩) | with_reducible refine sw_buildSliceN (AK.cs (a, z')) ⟨by omega, by omega, by omega⟩ (by kernel_rfl) fun b8 => ?_ | with_reducible refine sw_appendNV (sz := 9) (b7 := b8) (akC l) (AK.cs (a, z')) l.length o hN hone (by kernel_rfl) (by omega) ⟨hsl, by omega, by omega⟩ fun o' ho' hN' => ?_ | with_reducible refine sw_store ?_ | with_reducible refine sg_back ?_ | fail))
              all_goals (refine sg_done (by kernel_rfl) rfl ?_)
            case' g2b =>
              all_goals (repeat' (first | with_reducible (first | refine go1 ?_ | refine sct ?_ | refine scf ?_ | refine sgr ?_) | ((with_reducible refine sw_callf hAct ?_); rintro _ _ ⟨rfl, rfl⟩) | with_reducible refine sw_buildSliceN (AK.cs (a, z')) ⟨by omega, by omega, by omega⟩ (by kernel_rfl) fun b8 => ?_ | with_reducible refine sw_appendNV (sz := 9) (b7 := b8) (akC l) (AK.cs (a, z')) l.length o hN hone (by kernel_rfl) (by omega) ⟨hsl, by omega, by omega⟩ fun o' ho' hN' => ?_ | with_reducible refine sw_store ?_ | with_reducible refine sg_back ?_ | fail))
              all_goals (refine sg_one 5 rfl (by kernel_rfl) rfl ?_)
              all_goals (repeat' (first | with_reducible (first | refine go1 ?_ | refine sct ?_ | refine scf ?_ | refine sgr ?_) | ((with_reducible refine sw_callf hAct ?_); rintro _ _ ⟨rfl, rfl⟩) | with_reducible refine sw_buildSliceN (AK.cs (a, z')) ⟨by omega, by omega, by omega⟩ (by kernel_rfl) fun b8 => ?_ | with_reducible refine sw_appendNV (sz := 9) (b7 := b8) (akC l) (AK.cs (a, z')) l.length o hN hone (by kernel_rfl) (by omega) ⟨hsl, by omega, by omega⟩ fun o' ho' hN' => ?_ | with_reducible refine sw_store ?_ | with_reducible refine sg_back ?_ | fail))
              all_goals (refine sg_one 13 rfl (by kernel_rfl) rfl ?_)
              all_goals (repeat' (first | with_reducible (first | refine go1 ?_ | refine sct ?_ | refine scf ?_ | refine sgr ?_) | ((with_reducible refine sw_callf hAct ?_); rintro _ _ ⟨rfl, rfl⟩) | with_reducible refine sw_buildSliceN (AK.cs (a, z')) ⟨by omega, by omega, by omega⟩ (by kernel_rfl) fun b8 => ?_ | with_reducible refine sw_appendNV (sz := 9) (b7 := b8) (akC l) (AK.cs (a, z')) l.length o hN hone (by kernel_rfl) (by omega) ⟨hsl, by omega, by omega⟩ fun o' ho' hN' => ?_ | with_reducible refine sw_store ?_ | with_reducible refine sg_back ?_ | fail))
              all_goals (first | refine sg_take 14 hcalm rfl (by kernel_rfl) (by kernel_rfl) (by kernel_rfl) ?_)
              all_goals (first | refine sg_take 15 hcalm rfl (by kernel_rfl) (by kernel_rfl) (by kernel_rfl) ?_)
              all_goals (first | refine sg_take 16 hcalm rfl (by kernel_rfl) (by kernel_rfl) (by kernel_rfl) ?_)
              all_goals (refine sg_one 17 rfl (by kernel_rfl) rfl ?_)
              all_goals (repeat' (first | with_reducible (first | refine go1 ?_ | refine sct ?_ | refine scf ?_ | refine sgr ?_) | ((with_reducible refine sw_callf hAct ?_); rintro _ _ ⟨rfl, rfl⟩) | with_reducible refine sw_buildSliceN (AK.cs (a, z')) ⟨by omega, by omega, by omega⟩ (by kernel_rfl) fun b8 => ?_ | with_reducible refine sw_appendNV (sz := 9) (b7 := b8) (akC l) (AK.cs (a, z')) l.length o hN hone (by kernel_rfl) (by omega) ⟨hsl, by omega, by omega⟩ fun o' ho' hN' => ?_ | with_reducible refine sw_store ?_ | with_reducible refine sg_back ?_ | fail))
              all_goals (refine sg_done (by kernel_rfl) rfl ?_)
          all_goals (repeat' (first | with_reducible (first | refine go1 ?_ | refine sct ?_ | refine scf ?_ | refine sgr ?_) | fail))
          all_goals refine sqx_n ?_
          all_goals (refine sq_end0 Tryd.results26 ?_)
          all_goals refine ⟨_, ⟨some cf, l ++ [(a, z')], o', by rw [htk, hf]; simp [ha, Nat.not_le.2 hlt], by rw [akC_app, akC_one, List.length_append]; exact hN', by simp only [List.length_append, List.length_cons, List.length_nil]; omega, hA.app hkn, rfl, rfl⟩, ?_⟩
          all_goals rw [akC_app, akC_one, List.length_append]
          all_goals refine Ent.trans (B := (0, ro W) :: (p, pts p (.cells (rdrC cf (nV (l.length + 1) o') true).toArray 55 (0, 0))) :: (7011, KP l) :: (7010, FLD f x y z) :: oR (nG 46 (akC l ++ AK.cs (a, z'))) F o') ?_ (Ent.cons _ (Ent.cons _ ((Ent.cons _ (hk1 _)).trans ((kp_add l a z' _).trans (Ent.cons _ (oR_close _ _ _ _))))))
          all_goals (repeat' (first | with_reducible exact Ent.refl _ | with_reducible refine Ent.take_eq ?_ ?_ | rfl | with_reducible refine Ent.oR ?_ | with_reducible refine Ent.trans (oR.drop _ _ _) ?_ | with_reducible refine Ent.trans (Ent.drop _ _) ?_))
      | true =>
        cases co with
        | some cf =>
          simp only [Option.isSome_none, Option.isSome_some, Option.getD_none, Option.getD_some, Option.isNone_none, Option.isNone_some] at htk ⊢
          repeat' (first | with_reducible (first | refine go1 ?_ | refine sct ?_ | refine scf ?_ | refine sgr ?_) | with_reducible refine sw_indexN 0 ⟨by omega, by omega⟩ ?_ | with_reducible refine sw_load_aggR b (0 * 2) w.cs hcells hwl hw2 (by omega) ?_ | with_reducible refine sw_build (Tok.cs ⟨wStore, false⟩) (by kernel_rfl) ?_ | with_reducible refine sw_panic ?_ | with_reducible refine sw_guard_skip_u ?_ | (with_reducible refine sc_cond (fun h => ?_) (fun h => ?_)) <;> (try (exfalso; first | contradiction | omega | exact h Iff.rfl)) | (with_reducible refine sw_guard_split (fun h => ?_) (fun h => ?_)) <;> (try (exfalso; first | contradiction | omega | exact h Iff.rfl)) | (with_reducible refine sw_pick (fun h => ?_) (fun h => ?_)) <;> (try (exfalso; first | contradiction | omega | exact h Iff.rfl)) | fail)
          exact sqx_pan ⟨_, ⟨260, by rw [htk]; simp, rfl, rfl⟩, by repeat' (first | with_reducible exact Ent.refl _ | with_reducible refine Ent.take_eq ?_ ?_ | rfl | with_reducible refine Ent.oR ?_ | with_reducible refine Ent.trans (oR.drop _ _ _) ?_ | with_reducible refine Ent.trans (Ent.drop _ _) ?_)⟩
        | none =>
          simp only [Option.isSome_none, Option.isSome_some, Option.getD_none, Option.getD_some, Option.isNone_none, Option.isNone_some] at htk ⊢
          repeat' (first | with_reducible (first | refine go1 ?_ | refine sct ?_ | refine scf ?_ | refine sgr ?_) | with_reducible refine sw_indexN 0 ⟨by omega, by omega⟩ ?_ | with_reducible refine sw_load_aggR b (0 * 2) w.cs hcells hwl hw2 (by omega) ?_ | with_reducible refine sw_build (Tok.cs ⟨wStore, false⟩) (by kernel_rfl) ?_ | with_reducible refine sw_panic ?_ | with_reducible refine sw_guard_skip_u ?_ | (with_reducible refine sc_cond (fun h => ?_) (fun h => ?_)) <;> (try (exfalso; first | contradiction | omega | exact h Iff.rfl)) | (with_reducible refine sw_guard_split (fun h => ?_) (fun h => ?_)) <;> (try (exfalso; first | contradiction | omega | exact h Iff.rfl)) | (with_reducible refine sw_pick (fun h => ?_) (fun h => ?_)) <;> (try (exfalso; first | contradiction | omega | exact h Iff.rfl)) | fail)
          refine sw_callP hfits ?_ ?_
          rotate_left
          · rintro _ _ ⟨er, he, rfl, rfl⟩
            repeat' (first | with_reducible (first | refine go1 ?_ | refine sct ?_ | refine scf ?_ | refine sgr ?_) | fail)
            exact sqx_pan ⟨_, ⟨er, by rw [htk, he]; simp, rfl, rfl⟩, by repeat' (first | with_reducible exact Ent.refl _ | with_reducible refine Ent.take_eq ?_ ?_ | rfl | with_reducible refine Ent.oR ?_ | with_reducible refine Ent.trans (oR.drop _ _ _) ?_ | with_reducible refine Ent.trans (Ent.drop _ _) ?_)⟩
          rintro _ _ ⟨f, x, y, z, hf, ⟨hx, hy, hz⟩, rfl, rfl⟩
          have hw0 : w.s = wStore := by
            simp only [Bool.and_eq_true, decide_eq_true_eq] at hst; exact hst.1
          have hn7 : f.n.length = 7 := by
            obtain ⟨x, y⟩ := w
            simp only at hw0
            subst hw0
            exact fits_n7 hf
          obtain ⟨fn, ft, fk⟩ := f
          dsimp only at hx hy hz hn7
          obtain ⟨n0, n1, n2, n3, n4, n5, n6, rfl⟩ : ∃ n0 n1 n2 n3 n4 n5 n6, fn = [n0, n1, n2, n3, n4, n5, n6] := by
            match fn, hn7 with
            | [a, b, c, d, e, f, g], _ => exact ⟨a, b, c, d, e, f, g, rfl⟩
          obtain ⟨bx, tx, rfl⟩ : ∃ bx tx, x = some (bx, tx) := by
            cases x with
            | none => have := hx rfl; cases this
            | some q => exact ⟨q.1, q.2, rfl⟩
          unfold fldV fldR
          dsimp only [bufV]
          rw [vG_some]
          repeat' (first | with_reducible (first | refine go1 ?_ | refine sct ?_ | refine scf ?_ | refine sgr ?_) | with_reducible refine sw_alloc fun b6 => ?_ | with_reducible refine sw_store_agg ?_ | with_reducible refine sw_store ?_ | (with_reducible refine sc_cond (fun h => ?_) (fun h => ?_)) <;> (try (exfalso; first | contradiction | omega | exact h Iff.rfl)) | fail)
          have e7 : ∀ (a0 a1 a2 a3 a4 a5 a6 u : Value), ([a0, a1, a2, a3, a4, a5, a6, u, .bool true] : List Value).take 0 ++ [.int .i64 n0, .int .i64 n1, .int .i64 n2, .int .i64 n3, .int .i64 n4, .int .i64 n5, .int .i64 n6] ++ ([a0, a1, a2, a3, a4, a5, a6, u, .bool true] : List Value).drop (0 + 7) = rdrC [n0, n1, n2, n3, n4, n5, n6] u true := fun _ _ _ _ _ _ _ _ => rfl
          refine sc_lin ([(b6, pts b6 (.cells [.slice (some ⟨bx, 0, none⟩) [n0, n1, n2, n3, n4, n5, n6].length ([n0, n1, n2, n3, n4, n5, n6].length + tx.length), nV ft.length y, nV fk.length z].toArray 88 (0, 0))), (bx, pts bx (.cells ([n0, n1, n2, n3, n4, n5, n6].map (Value.int .i64) ++ tx).toArray 3 (0, 0)))]) (llp 0 (llp 1 (llp 2 (llp 3 (llp 4 (llp 5 (llp 6 (llp 7 (llp 8 (llp 9 (llp 10 (llp 11 (llp 12 (llp 13 (llp 14 (llp 15 (llp 16 (llp 17 (llp 18 (llp 19 (llp 20 (llp 21 (llp 22 (llp 23 (llp 24 (llp 25 (llp 26 (llp 27 (llp 28 (llp 29 (llp 30 (llp 31 (llp 32 (lle 33 ll0)))))))))))))))))))))))))))))))))) (by kernel_rfl) rfl (by kernel_rfl) ?_
          all_goals (iterate 3 refine go1l ?_)
          all_goals refine sl_take (h := runop_indexN 0 ⟨rfl, by simp⟩) ?_
          all_goals refine sl_take (h := runop_loadAt (.int .i64 n0) rfl) ?_
          all_goals (iterate 2 refine go1l ?_)
          all_goals refine sl_take (h := runop_indexN 1 ⟨rfl, by simp⟩) ?_
          all_goals refine sl_take (h := runop_loadAt (.int .i64 n1) rfl) ?_
          all_goals (iterate 2 refine go1l ?_)
          all_goals refine sl_take (h := runop_indexN 2 ⟨rfl, by simp⟩) ?_
          all_goals refine sl_take (h := runop_loadAt (.int .i64 n2) rfl) ?_
          all_goals (iterate 2 refine go1l ?_)
          all_goals refine sl_take (h := runop_indexN 3 ⟨rfl, by simp⟩) ?_
          all_goals refine sl_take (h := runop_loadAt (.int .i64 n3) rfl) ?_
          all_goals (iterate 2 refine go1l ?_)
          all_goals refine sl_take (h := runop_indexN 4 ⟨rfl, by simp⟩) ?_
          all_goals refine sl_take (h := runop_loadAt (.int .i64 n4) rfl) ?_
          all_goals (iterate 2 refine go1l ?_)
          all_goals refine sl_take (h := runop_indexN 5 ⟨rfl, by simp⟩) ?_
          all_goals refine sl_take (h := runop_loadAt (.int .i64 n5) rfl) ?_
          all_goals (iterate 2 refine go1l ?_)
          all_goals refine sl_take (h := runop_indexN 6 ⟨rfl, by simp⟩) ?_
          all_goals refine sl_take (h := runop_loadAt (.int .i64 n6) rfl) ?_
          all_goals refine sl_take (h := runop_buildR [.int .i64 n0, .int .i64 n1, .int .i64 n2, .int .i64 n3, .int .i64 n4, .int .i64 n5, .int .i64 n6] (by kernel_rfl)) ?_
          all_goals (iterate 3 refine go1l ?_)
          all_goals refine sl_eff ?_
          all_goals (repeat' (first | with_reducible (first | refine go1 ?_ | refine sct ?_ | refine scf ?_ | refine sgr ?_) | with_reducible refine sw_storePart (rdrC [n0, n1, n2, n3, n4, n5, n6] (nV l.length o) true) (by simp) (e7 _ _ _ _ _ _ _ _) ?_ | with_reducible refine sl_back ?_ | fail))
          all_goals refine sl_done ?_
          repeat' (first | with_reducible (first | refine go1 ?_ | refine sct ?_ | refine scf ?_ | refine sgr ?_) | fail)
          refine sqx ?_
          refine sq_ret0 Tryd.results26 ?_
          refine ⟨_, ⟨some [n0, n1, n2, n3, n4, n5, n6], l, o, by rw [htk, hf]; simp, hN, hl, hA, rfl, rfl⟩, ?_⟩
          repeat' (first | with_reducible exact Ent.refl _ | with_reducible refine Ent.take_eq ?_ ?_ | rfl | with_reducible refine Ent.oR ?_ | with_reducible refine Ent.trans (oR.drop _ _ _) ?_ | with_reducible refine Ent.trans (Ent.drop _ _) ?_)
end Go.Gsl

namespace Go.Gsl
set_option linter.unusedVariables false
open Go.Proofs

section
variable {P : Program} {n : Nat} {w0 : World} {e : Env} {Rs : List Res}
/-- what is behind the recover, as any code -/
def PostS (P : Program) (fn : Func) (c₀ : Frame) (cs : List Frame) (u' : FrameMode) (w0 : World) (R : List Res → Prop) : Cont :=
  ⟨none, [], fun x a w => (x = .normal ∨ x = .ret) ∧ a.defers = [] ∧ ∃ Rs', R Rs' ∧ Sat w0 w Rs'⟩
theorem sq_postS {fn : Func} {c₀ : Frame} {cs : List Frame} {u' : FrameMode} {R : List Res → Prop} {x : Exit} (hx : x = .normal ∨ x = .ret) (h : ∃ Rs', R Rs' ∧ Ent Rs Rs') : SQ (PostS P fn c₀ cs u' w0 R) n w0 x e Rs := by
  obtain ⟨Rs', h1, h2⟩ := h
  exact fun w hw => ⟨hx, rfl, Rs', h1, hw.ent h2⟩
end

section
variable {P : Program} {n : Nat} {e : Env} {x : Operand} {ty : TypeId}
/-- x.(T), x holding a T, a whole number by its kind -/
instance PureOp.assertI {xt t : TypeId} {k : IntKind} {v : Value} [hx : Ev n e x (.iface t v)] [hu : Und P t (.int k)] : PureOp P n e (.typeAssert x xt t true) ty (.tuple #[v, .bool true]) :=
  ⟨fun o h1 _ w => by unfold execOp; rw [h1]; simp [hx.out, Instr.typeAssert, run_und (t := t)]⟩
end
/-- a deferred function that begins with a recover -/
theorem specD_rec {P : Program} {f : FuncId} {fn : Func} {id d1 d2 n : Nat} {ty : TypeId} {p1 p2 : String} {ts : Array TypeId} {aft : Array Edge} {y : Code} {u u' : FrameMode} {rc : Value} {vs : List Value} {e : Env} {ks : List Nat} {rs : List HProp} {Z : List Res → List Res} {A : List Res → List Res → Prop}
    (hf : P.funcs[f]? = some fn) (hn : fn.ntmps = n) (hl : Nat.ble vs.length n = true) (hr : fn.results = #[])
    (hb : fn.body = some (.seq (.region id #[{ dst := some d1, op := .call { callee := .builtin .recover, args := #[], argTypes := ts }, type := ty, pos := p1, after := #[], guard := none }, { dst := some d2, op := .assign (.tmp d1), type := ty, pos := p2, after := aft, guard := none }] false) y))
    [ha : ArgE 0 vs e] [hz : ZipR ks rs Z] (hd1 : d1 < n)
    (hrec : ∀ (c₀ : Frame) (cs : List Frame), c₀.mode = u → (recoverD (c₀ :: cs) = some (rc, { c₀ with mode := u' } :: cs)) ∨ (recoverD (c₀ :: cs) = none ∧ rc = .nilIface ∧ u' = u))
    (hs : settle u' = .returning)
    (h : ∀ w0 F c₀ cs, SC P (PostS P fn c₀ cs u' w0 (A F)) n w0 y ((d2, rc) :: (d1, rc) :: e) (Z F)) : SpecD P f vs u ks rs A := by
  intro w0 F w hw
  refine callsDIn_of_wpSIn hf hb trivial fun c₀ cs hu => ?_
  apply wpSIn_seq
  apply wpSIn_region
  rw [hn, act_args vs n (Nat.le_of_ble_eq_true hl), ha.out]
  rw [hz.out] at hw
  have key : ∀ cs' : List Frame, cs' = { c₀ with mode := u' } :: cs → y.wpSIn Fence.wide 0 P (bodyPostS P fn c₀ cs fun x u' w' => (∃ v, x = .returned v) ∧ settle u' = .returning ∧ ∃ Rs', A F Rs' ∧ Sat w0 w' Rs') (actM [] n ((d2, rc) :: (d1, rc) :: e)) cs' w := by
    rintro cs' rfl
    refine wpSIn_of_wpIn rfl (Code.wpIn_mono ?_ (h w0 F c₀ cs w hw))
    rintro x a w' ⟨hx, hd, Rs', hA, hw'⟩
    rcases hx with rfl | rfl
    · exact ⟨hd, u', rfl, .tuple #[], by simp [results, hr], ⟨_, rfl⟩, hs, Rs', hA, hw'⟩
    · exact ⟨hd, u', rfl, .tuple #[], by simp [results, hr], ⟨_, rfl⟩, hs, Rs', hA, hw'⟩
  have hval : ∀ a0 : Value, (actM [] n ((d1, a0) :: e)).eval (.tmp d1) = a0 := fun a0 => by
    have := slots_getElem? n ((d1, a0) :: e) d1 hd1
    simp [Act.eval, actM, this, look]
  have hrun : ∀ (ρ : Operand → Value) (w : World), (execOp ρ { dst := some d1, op := .call { callee := .builtin .recover, args := #[], argTypes := ts }, type := ty, pos := p1, after := #[], guard := none }).run P w = .ok .recover w := by
    intro ρ w
    unfold execOp
    simp [resolve, invoke, builtin]
  have hass : ∀ (ρ : Operand → Value) (w : World), (execOp ρ { dst := some d2, op := .assign (.tmp d1), type := ty, pos := p2, after := aft, guard := none }).run P w = .ok (.value (ρ (.tmp d1))) w := by
    intro ρ w
    unfold execOp
    simp
  show wpOpsSIn Fence.wide 0 P _ _ [0, 1] (actM [] n e) (c₀ :: cs) w
  have hthen : ∀ cs' : List Frame, cs' = { c₀ with mode := u' } :: cs → wpOpsSIn Fence.wide 0 P #[{ dst := some d1, op := .call { callee := .builtin .recover, args := #[], argTypes := ts }, type := ty, pos := p1, after := #[], guard := none }, { dst := some d2, op := .assign (.tmp d1), type := ty, pos := p2, after := aft, guard := none }]
      (Exit.thenS (y.wpSIn Fence.wide 0 P (bodyPostS P fn c₀ cs fun x u' w' => (∃ v, x = .returned v) ∧ settle u' = .returning ∧ ∃ Rs', A F Rs' ∧ Sat w0 w' Rs')) (bodyPostS P fn c₀ cs fun x u' w' => (∃ v, x = .returned v) ∧ settle u' = .returning ∧ ∃ Rs', A F Rs' ∧ Sat w0 w' Rs')) [1] ((actM [] n e).put (some d1) rc) cs' w := by
    intro cs' hcs
    rw [actM_put]
    unfold wpOpsSIn
    simp only [List.getElem?_toArray, List.getElem?_cons_succ, List.getElem?_cons_zero]
    refine ⟨fun _ _ => trivial, ?_⟩
    rw [if_pos (by simp [Region.wanted]), hass, hval]
    simp only
    unfold wpOpsSIn
    rw [actM_put]
    exact key cs' hcs
  unfold wpOpsSIn
  simp only [List.getElem?_toArray, List.getElem?_cons_zero]
  refine ⟨fun _ _ => trivial, ?_⟩
  rw [if_pos (by simp [Region.wanted]), hrun]
  simp only
  rcases hrec c₀ cs hu with hR | ⟨hR, hrc, hu'⟩
  · rw [hR]
    exact hthen _ rfl
  · rw [hR]
    simp only
    rw [← hrc]
    exact hthen _ (by rw [hu', ← hu])

theorem sParseD_idle (bs be : Nat) : SpecD Tryd.prog 24 [.pointer (some ⟨bs, 0, none⟩), .pointer (some ⟨be, 0, none⟩)] .returning [] [] fun F Rs' => Rs' = F := by
  refine specD_rec (u' := .returning) (rc := .nilIface) Tryd.func24 Tryd.ntmps24 rfl rfl rfl (by omega) (fun c₀ cs hu => .inr ⟨by cases c₀; simp_all [recoverD], rfl, rfl⟩) rfl ?_
  intro w0 F c₀ cs
  repeat' (first | with_reducible (first | refine go1 ?_ | refine sct ?_ | refine scf ?_ | refine sgr ?_) | fail)
  exact sq_postS (.inl rfl) ⟨_, rfl, Ent.refl _⟩

abbrev zS : List Value := [.int .i64 0, .int .i64 0, .int .i64 0, .int .i64 0, .int .i64 0, .int .i64 0, .int .i64 0, .slice none 0 0]
theorem sParseD_pan (bs be : Nat) (er : Int) (a0 a1 a2 a3 a4 a5 a6 a7 ev : Value) : SpecD Tryd.prog 24 [.pointer (some ⟨bs, 0, none⟩), .pointer (some ⟨be, 0, none⟩)] (.panicking [{ v := .iface 27 (.int .i64 er), recovered := false }])
    [bs, be] [pts bs (.cells [a0, a1, a2, a3, a4, a5, a6, a7].toArray 26 (0, 0)), pts be (.cells [ev].toArray 27 (0, 0))]
    fun F Rs' => Rs' = (bs, pts bs (.cells zS.toArray 26 (0, 0))) :: (be, pts be (.cells [.int .i64 er].toArray 27 (0, 0))) :: F := by
  refine specD_rec (u' := .panicking [{ v := .iface 27 (.int .i64 er), recovered := true }]) (rc := .iface 27 (.int .i64 er)) Tryd.func24 Tryd.ntmps24 rfl rfl rfl (by omega) (fun c₀ cs hu => .inl (by simp [recoverD, hu])) rfl ?_
  intro w0 F c₀ cs
  repeat' (first | with_reducible (first | refine go1 ?_ | refine sct ?_ | refine scf ?_ | refine sgr ?_) | with_reducible refine sw_build zS (by kernel_rfl) ?_ | with_reducible refine sw_store_agg ?_ | with_reducible refine sw_store ?_ | (with_reducible refine sc_cond (fun h => ?_) (fun h => ?_)) <;> (try (exfalso; first | contradiction | omega | exact h Iff.rfl)) | fail)
  exact sq_postS (.inl rfl) ⟨_, rfl, by repeat' (first | with_reducible exact Ent.refl _ | with_reducible refine Ent.take_eq ?_ ?_ | rfl | with_reducible refine Ent.oR ?_ | with_reducible refine Ent.trans (oR.drop _ _ _) ?_ | with_reducible refine Ent.trans (Ent.drop _ _) ?_)⟩
end Go.Gsl

namespace Go.Gsl
set_option linter.unusedVariables false
open Go.Proofs

section
variable {P : Program} {n : Nat} {w0 : World} {e : Env} {Rs F F2 : List Res}
/-- results: a struct's variable, a slot, a number's variable -/
theorem results_ATC {fn : Func} {t u b b2 u2 sz : Nat} {ty ty' ty2 ty2' : TypeId} {vs : List Value} {y v2 : Value} {fr fr2 : Nat × Nat} (hr : fn.results = #[.cell t ty, .tmp u, .cell u2 ty2]) [h1 : Lk e t (.pointer (some ⟨b, 0, none⟩))] [hn1 : Lt t n] [h2 : Lk e u y] [hn2 : Lt u n] [h3 : Lk e u2 (.pointer (some ⟨b2, 0, none⟩))] [hn3 : Lt u2 n]
    [IsAggT P ty] [hs : SizeOf P ty sz] [hna : NonAgg P ty2] [tk : Take Rs b (pts b (.cells vs.toArray ty' fr)) F] [tk2 : Take Rs b2 (pts b2 (.cells [v2].toArray ty2' fr2)) F2] (hl : vs.length = sz) (w : World) (hw : Sat w0 w Rs) :
    (results fn (act n e).tmps).run P w = .ok (.tuple #[.agg vs.toArray, y, v2]) w := by
  have a1 : (slots n e)[t]? = some (.pointer (some ⟨b, 0, none⟩)) := by rw [slots_getElem? n e t hn1.out, h1.out]
  have a2 : (slots n e)[u]? = some y := by rw [slots_getElem? n e u hn2.out, h2.out]
  have a3 : (slots n e)[u2]? = some (.pointer (some ⟨b2, 0, none⟩)) := by rw [slots_getElem? n e u2 hn3.out, h3.out]
  have h4 := run_loadVarA (P := P) (t := ty) (w := w) (b := b) hl fun j v hj => cell_of (hw.get tk) (by simpa using hj)
  have h5 : w.cell? ⟨b2, 0, none⟩ = some v2 := cell_of (hw.get tk2) (by simp)
  have h6 : (loadVar ty2 ⟨b2, 0, none⟩).run P w = .ok v2 w := by simp [loadVar, hna.out, h5]
  simp [results, hr, act, a1, a2, a3, asAddr, h4, h6]
end

/-- a script as Parse answers it -/
abbrev scrC (c : List Int) (v : Value) : List Value := [.int .i64 (c.getD 0 0), .int .i64 (c.getD 1 0), .int .i64 (c.getD 2 0), .int .i64 (c.getD 3 0), .int .i64 (c.getD 4 0), .int .i64 (c.getD 5 0), .int .i64 (c.getD 6 0), v]
set_option maxHeartbeats 4000000 in
theorem sParse_ok (W : World) (hT : Tabs Tryd.prog W) (s : Bs) (hs : s.length ≤ 1073741824) : Spec Tryd.prog 9 [.string (sB s)] [0] [ro W] fun F v Rs' =>
    (∃ c l o, parseS s = .ok ⟨some c, l.map Prod.fst⟩ ∧ NOk 9 (akC l) l.length o ∧ l.length ≤ 4096 ∧ AkN l ∧ v = .tuple #[.agg (scrC c (nV l.length o)).toArray, .int .i64 0, .int .i64 0] ∧ Rs' = (0, ro W) :: (7011, KP l) :: (7012, hall (oR (nG 46 (akC l)) [] o)) :: F) ∨
    (∃ er k, parseS s = .error (er, k) ∧ v = .tuple #[.agg zS.toArray, .int .i64 k, .int .i64 er] ∧ Rs' = (0, ro W) :: F) := by
  refine spec_ofD Tryd.func9 rfl Tryd.ntmps9 rfl ?_
  intro w0 F
  repeat' (first | with_reducible (first | refine go1 ?_ | refine sct ?_ | refine scf ?_ | refine sgr ?_) | fail)
  refine sw_alloc fun bs => ?_
  repeat' (first | with_reducible (first | refine go1 ?_ | refine sct ?_ | refine scf ?_ | refine sgr ?_) | fail)
  refine sw_alloc fun be => ?_
  repeat' (first | with_reducible (first | refine go1 ?_ | refine sct ?_ | refine scf ?_ | refine sgr ?_) | fail)
  refine sw_defer (cs := [.pointer (some ⟨bs, 0, none⟩), .pointer (some ⟨be, 0, none⟩)]) rfl ?_
  refine sw_nil ?_
  rw [Cont.dfr_next]
  repeat' (first | with_reducible (first | refine go1 ?_ | refine sct ?_ | refine scf ?_ | refine sgr ?_) | with_reducible refine sw_build (rdrC [] (.slice none 0 0) false) (by kernel_rfl) ?_ | with_reducible refine sw_box fun br => ?_ | fail)
  refine sc_loop (α := { x : Bs × Int × Option (List Int) × List AK × Option (Nat × Nat × List Value) // x.1.length ≤ s.length ∧ 0 ≤ x.2.1 ∧ x.2.1 + x.1.length ≤ s.length ∧ NOk 9 (akC x.2.2.2.1) x.2.2.2.1.length x.2.2.2.2 ∧ x.2.2.2.1.length ≤ 4096 ∧ AkN x.2.2.2.1 ∧
      parseR ⟨x.2.2.1, x.2.2.2.1.map Prod.fst⟩ x.2.1 x.1 = parseR ⟨none, []⟩ 0 s })
    (fun x => [(0, .string (sB x.1.1)), (2, .pointer (some ⟨bs, 0, none⟩)), (3, .int .i64 x.1.2.1), (4, .pointer (some ⟨be, 0, none⟩)), (5, .pointer (some ⟨br, 0, none⟩))])
    (fun x => (0, ro W) :: (br, pts br (.cells (rdrC (x.1.2.2.1.getD []) (nV x.1.2.2.2.1.length x.1.2.2.2.2) x.1.2.2.1.isSome).toArray 55 (0, 0))) :: (7011, KP x.1.2.2.2.1) :: (7012, hall (oR (nG 46 (akC x.1.2.2.2.1)) [] x.1.2.2.2.2)) ::
      (be, pts be (.cells [Value.int .i64 0].toArray 27 (0, 0))) :: (bs, pts bs (.cells zS.toArray 26 (0, 0))) :: F)
    (fun x => x.1.1.length) ⟨(s, 0, none, [], none), Nat.le_refl _, Int.le_refl _, by simp, ⟨rfl, fun _ => ⟨rfl, rfl⟩, fun b c t h => by cases h⟩, by simp, AkN.nil, rfl⟩ ?_ ?_ ?_
  · repeat' (first | exact says_nil | refine says_cons rfl ?_ | refine says_cons (by simp) ?_)
  · show Ent _ ((0, ro W) :: (br, pts br (.cells (rdrC [] (.slice none 0 0) false).toArray 55 (0, 0))) :: (7011, hall []) :: (7012, hall []) :: (be, pts be (.cells [Value.int .i64 0].toArray 27 (0, 0))) :: (bs, pts bs (.cells zS.toArray 26 (0, 0))) :: F)
    refine Ent.trans (B := (0, ro W) :: (br, pts br (.cells (rdrC [] (.slice none 0 0) false).toArray 55 (0, 0))) :: (be, pts be (.cells [Value.int .i64 0].toArray 27 (0, 0))) :: (bs, pts bs (.cells zS.toArray 26 (0, 0))) :: F) ?_ (Ent.cons _ (Ent.cons _ ((Ent.hall_close 7012 [] _).trans (Ent.hall_close 7011 [] _))))
    repeat' (first | with_reducible exact Ent.refl _ | with_reducible refine Ent.take_eq ?_ ?_ | rfl | with_reducible refine Ent.oR ?_ | with_reducible refine Ent.trans (oR.drop _ _ _) ?_ | with_reducible refine Ent.trans (Ent.drop _ _) ?_)
  rintro ⟨⟨x, k, co, l, o⟩, hx1, hk0, hk1, hN, hl, hA, hp⟩ e
  dsimp only at hx1 hk0 hk1 hN hl hA hp
  simp only [List.cons_append, List.nil_append]
  have hpS := parseS_eq s
  rw [← hp] at hpS
  repeat' (first | with_reducible refine sw_in (by omega) ?_ | with_reducible (first | refine go1 ?_ | refine sct ?_ | refine scf ?_ | refine sgr ?_) | ((with_reducible refine sw_callf (cut_ok x 10 (by omega)) ?_); rintro _ _ ⟨⟨y, rfl⟩, rfl⟩) | with_reducible refine sw_panic ?_ | (with_reducible refine sc_cond (fun h => ?_) (fun h => ?_)) <;> (try (exfalso; first | contradiction | omega | exact h Iff.rfl)) | fail)
  · have hxl : 1 ≤ x.length := by
      cases x with
      | nil => exact absurd rfl h
      | cons a x => simp
    have hcl := cutW_len 10 x
    have hcr : (cutR 10 x).length < x.length := by
      cases x with
      | nil => exact absurd rfl h
      | cons a x => exact cutR_len _ _ _
    rw [parseR_step _ _ _ h] at hp hpS
    refine sw_callP (sTake_ok W hT br (cutW 10 x) (by omega) co l o hN hl hA) ?_ ?_
    · rintro _ _ ⟨co', l', o', htk, hN', hl', hA', rfl, rfl⟩
      rw [htk] at hp
      repeat' (first | with_reducible (first | refine go1 ?_ | refine sct ?_ | refine scf ?_ | refine sgr ?_) | fail)
      refine sq_round ⟨(cutR 10 x, k + 1, co', l', o'), by dsimp only; omega, by dsimp only; omega, by dsimp only; omega, hN', hl', hA', hp⟩ hcr ?_ ?_
      · repeat' (first | exact says_nil | refine says_cons rfl ?_ | refine says_cons (by simp) ?_)
      · repeat' (first | with_reducible exact Ent.refl _ | with_reducible refine Ent.take_eq ?_ ?_ | rfl | with_reducible refine Ent.oR ?_ | with_reducible refine Ent.trans (oR.drop _ _ _) ?_ | with_reducible refine Ent.trans (Ent.drop _ _) ?_)
    · rintro _ _ ⟨er, htk, rfl, rfl⟩
      rw [htk] at hpS
      repeat' (first | with_reducible (first | refine go1 ?_ | refine sct ?_ | refine scf ?_ | refine sgr ?_) | fail)
      refine sq_dfr (.inr ⟨_, rfl, rfl⟩) (sParseD_pan bs be er _ _ _ _ _ _ _ _ _) ?_
      rintro _ rfl
      refine ⟨_, _, .inr ⟨er, (k + 1), hpS, rfl, rfl⟩, fun w hw => results_ATC Tryd.results9 rfl w hw, ?_⟩
      repeat' (first | with_reducible exact Ent.refl _ | with_reducible refine Ent.take_eq ?_ ?_ | rfl | with_reducible refine Ent.oR ?_ | with_reducible refine Ent.trans (oR.drop _ _ _) ?_ | with_reducible refine Ent.trans (Ent.drop _ _) ?_)
  · rename_i hx0
    have hxn : x = [] := Classical.not_not.1 hx0
    subst hxn
    cases co with
    | some cf => exact absurd rfl h
    | none =>
      rw [parseR_nil] at hpS
      refine sq_dfr (.inr ⟨_, rfl, rfl⟩) (sParseD_pan bs be 263 _ _ _ _ _ _ _ _ _) ?_
      rintro _ rfl
      refine ⟨_, _, .inr ⟨263, (if 1 < k then k else 1), by rw [hpS]; show Except.error ((263 : Int), max 1 k) = _; congr 2; omega, rfl, rfl⟩, fun w hw => results_ATC Tryd.results9 rfl w hw, ?_⟩
      repeat' (first | with_reducible exact Ent.refl _ | with_reducible refine Ent.take_eq ?_ ?_ | rfl | with_reducible refine Ent.oR ?_ | with_reducible refine Ent.trans (oR.drop _ _ _) ?_ | with_reducible refine Ent.trans (Ent.drop _ _) ?_)
  · rename_i hx0
    have hxn : x = [] := Classical.not_not.1 hx0
    subst hxn
    cases co with
    | none => exact absurd (by simp) h
    | some cf =>
      rw [parseR_nil] at hpS
      have hr : Reads (pts br (.cells (rdrC cf (nV l.length o) true).toArray 55 (0, 0))) (some ⟨br, 0, none⟩) (rdrC cf (nV l.length o) true) := reads_pts fun j v hj => by rw [Nat.zero_add]; exact hj
      have hl8 : (scrC cf (nV l.length o)).length = 8 := rfl
      have hv : ((rdrC cf (nV l.length o) true).drop 0).take 8 = scrC cf (nV l.length o) := rfl
      simp only [Option.getD_some, Option.isSome_some]
      repeat' (first | with_reducible (first | refine go1 ?_ | refine sct ?_ | refine scf ?_ | refine sgr ?_) | with_reducible refine sw_load_aggR br 0 (scrC cf (nV l.length o)) hr hl8 hv rfl ?_ | with_reducible refine sw_store_agg ?_ | with_reducible refine sw_store ?_ | fail)
      refine sq_dfr (.inl ⟨rfl, rfl⟩) (sParseD_idle bs be) ?_
      rintro _ rfl
      refine ⟨_, _, .inl ⟨cf, l, o, by rw [hpS]; rfl, hN, hl, hA, rfl, rfl⟩, fun w hw => results_ATC Tryd.results9 rfl w hw, ?_⟩
      repeat' (first | with_reducible exact Ent.refl _ | with_reducible refine Ent.take_eq ?_ ?_ | rfl | with_reducible refine Ent.oR ?_ | with_reducible refine Ent.trans (oR.drop _ _ _) ?_ | with_reducible refine Ent.trans (Ent.drop _ _) ?_)
end Go.Gsl

namespace Go.Gsl
set_option linter.unusedVariables false
open Go.Proofs

def begunT : Bs := [115, 116, 111, 114, 101, 32, 49, 48, 48, 32, 50, 48, 32, 51, 32, 52, 48, 48, 32, 52, 48, 32, 49, 54, 32, 54, 52, 10, 112, 117, 116, 32, 48, 32, 34, 97, 34, 32, 34, 49, 34, 10]
theorem begun_takes : takeS ⟨none, []⟩ (cutW 10 begunT) = .ok ⟨some [100, 20, 3, 400, 40, 16, 64], []⟩ := by kernel_rfl
theorem begun_takes2 : takeS ⟨some [100, 20, 3, 400, 40, 16, 64], []⟩ (cutW 10 (cutR 10 begunT)) = .ok ⟨some [100, 20, 3, 400, 40, 16, 64], [⟨1, 0, ⟨3, 0, [97], [49], [], []⟩, []⟩]⟩ := by kernel_rfl
theorem begun_parse : parseS begunT = .ok ⟨some [100, 20, 3, 400, 40, 16, 64], [⟨1, 0, ⟨3, 0, [97], [49], [], []⟩, []⟩]⟩ := by kernel_rfl

set_option maxHeartbeats 4000000 in
theorem begun_ok (W : World) (hT : Tabs Tryd.prog W) : Spec Tryd.prog 11 [] [0] [ro W] fun F v Rs' => v = .bool true ∧ Rs' = (0, ro W) :: F := by
  have hP := sParse_ok W hT begunT (by decide +kernel)
  rw [begun_parse] at hP
  unfold begunT at hP
  refine spec_of Tryd.func11 rfl Tryd.ntmps11 rfl ?_
  intro w0 F
  repeat' (first | with_reducible (first | refine go1 ?_ | refine sct ?_ | refine scf ?_ | refine sgr ?_) | fail)
  refine sw_callf hP ?_
  rintro v _ (⟨c, l, o, he, hN, hl, _, rfl, rfl⟩ | ⟨er, k, he, _⟩)
  rotate_left
  · cases he
  simp only [Except.ok.injEq, Scr.mk.injEq, Option.some.injEq] at he
  obtain ⟨rfl, he⟩ := he
  obtain ⟨z, rfl⟩ : ∃ z, l = [(⟨1, 0, ⟨3, 0, [97], [49], [], []⟩, []⟩, z)] := by
    cases l with
    | nil => cases he
    | cons p l =>
      cases l with
      | nil =>
        obtain ⟨a, z⟩ := p
        simp only [List.map_cons, List.map_nil, List.cons.injEq, and_true] at he
        exact ⟨z, by rw [← he]⟩
      | cons q l => simp at he
  obtain ⟨b, cp, t, rfl⟩ : ∃ b cp t, o = some (b, cp, t) := by
    cases o with
    | none => have := (hN.2.1 rfl).2; simp at this
    | some q => obtain ⟨b, cp, t⟩ := q; exact ⟨b, cp, t, rfl⟩
  refine sw_hall 7012 ?_
  rw [← oR_app, List.nil_append, nG_some]
  simp only [nV]
  repeat' (first | with_reducible (first | refine go1 ?_ | refine sct ?_ | refine scf ?_ | refine sgr ?_) | with_reducible refine sw_alloc fun b1 => ?_ | with_reducible refine sw_store_agg ?_ | with_reducible refine sw_indexN 0 ⟨rfl, by simp⟩ ?_ | with_reducible refine sw_loadAt (.int .i64 3) rfl ?_ | with_reducible refine sw_loadAt (.string (sB [49])) rfl ?_ | with_reducible refine sw_guard_skip_u ?_ | (with_reducible refine sc_cond (fun h => ?_) (fun h => ?_)) <;> (try (exfalso; first | contradiction | omega | exact h Iff.rfl)) | (with_reducible refine sw_guard_split (fun h => ?_) (fun h => ?_)) <;> (try (exfalso; first | contradiction | omega | exact h Iff.rfl)) | (with_reducible refine sw_pick (fun h => ?_) (fun h => ?_)) <;> (try (exfalso; first | contradiction | omega | exact h Iff.rfl)) | fail)
  refine sq_ret1 Tryd.results11 ?_
  refine ⟨_, ⟨by rw [decide_eq_true rfl], rfl⟩, ?_⟩
  repeat' (first | with_reducible exact Ent.refl _ | with_reducible refine Ent.take_eq ?_ ?_ | rfl | with_reducible refine Ent.oR ?_ | with_reducible refine Ent.trans (oR.drop _ _ _) ?_ | with_reducible refine Ent.trans (Ent.drop _ _) ?_)
end Go.Gsl
