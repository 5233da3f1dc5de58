/- The document's Parse: the walk. -/
import Derived.Test.YtjfieigjicbldaaDoorGVC
import Derived.Test.YtjfieigjicbldaaDoorGVB
import Derived.Test.YtjfieigjicbldaaDoorGE
namespace Go.Gsl
set_option linter.unusedVariables false
open Go.Proofs

section
variable {P : Program} {ops : List Oper} {Q : Cont} {n : Nat} {w0 : World} {rest : List Oper} {e : Env} {Rs F : List Res} {ty : TypeId}
/-- s[1:] -/
theorem runop_tail {t el : TypeId} {nb sz : Nat} {x : Operand} {b m c : Nat} {z : Value} (o : Nat) [hx : Ev n e x (.slice (some ⟨b, 0, none⟩) (m + 1) c)] [he : Elem P t el sz nb z] (hc : m + 1 ≤ c) (ho : (if c = 1 then 0 else sz) = o) :
    RunOp P n w0 e Rs (.slice t x (some (.const (.int .i64 1))) none none) ty (.slice (some ⟨b, o, none⟩) m (c - 1)) := by
  subst ho
  obtain ⟨i0, hi0, hz0, hz1, hz2⟩ := info_parts he.info
  refine ⟨fun op ho _ w _ => ?_⟩
  unfold execOp; rw [ho]
  have h4 := (Bounds.lo1 (m + 1) c .i64 1).out (by omega) P w
  have h1 : EvO n e (some (.const (.int .i64 1))) (some (.int .i64 1)) := ⟨rfl⟩
  have h2 : EvO n e none none := ⟨rfl⟩
  simp only [Int.toNat_natCast] at h4
  simp only [Instr.sliceAt, Instr.slice, Sem.run_bind, run_underlying he.und, Result.andThen_ok, hx.out, h1.out, h2.out, h4, sizeOf, typeInfo]
  by_cases hm : c = 1
  · simp [hm, hi0]
  · simp [hm, hi0, hz1, add_plain]
/-- results: a struct's variable, two slots -/
theorem sq_resATT {fn : Func} {R : Value → List Res → Prop} {t u s b sz : Nat} {ty ty' : TypeId} {vs : List Value} {y z : Value} {fr : Nat × Nat} {x : Exit} (hr : fn.results = #[.cell t ty, .tmp u, .tmp s]) (hx : x = .ret ∨ x = .normal) [Lk e t (.pointer (some ⟨b, 0, none⟩))] [Lt t n] [h2 : Lk e u y] [hn2 : Lt u n] [h3 : Lk e s z] [hn3 : Lt s n] [IsAggT P ty] [hs : SizeOf P ty sz] [tk : Take Rs b (pts b (.cells vs.toArray ty' fr)) F] (hl : vs.length = sz)
    (h : ∃ Rs', R (.tuple #[.agg vs.toArray, y, z]) Rs' ∧ Ent Rs Rs') : SQ (Post P fn w0 R) n w0 x e Rs := by
  refine sq_of_w hx (fun w hw => ?_) h
  have a1 : (slots n e)[t]? = some (.pointer (some ⟨b, 0, none⟩)) := by rw [slots_getElem? n e t ‹Lt t n›.out, ‹Lk e t _›.out]
  have a2 : (slots n e)[u]? = some y := by rw [slots_getElem? n e u hn2.out, h2.out]
  have a3 : (slots n e)[s]? = some z := by rw [slots_getElem? n e s hn3.out, h3.out]
  have h3 := run_loadVarA (P := P) (t := ty) (w := w) (b := b) hl fun j v hj => cell_of (hw.get tk) (by simpa using hj)
  simp [results, hr, act, a1, a2, a3, asAddr, h3]
end
theorem kp_addK (K : Nat) (l : List AK) (a : Act) (z : Option (Nat × Nat × List Value)) (F : List Res) : Ent ((K, KP l) :: oR (nG 4 (boolC a.k)) F z) ((K, KP (l ++ [(a, z)])) :: F) := by
  refine (Ent.hall_open K (kR l []) _).trans ?_
  have h : kR l [] ++ oR (nG 4 (boolC a.k)) F z = kR (l ++ [(a, z)]) [] ++ F := by
    rw [← kR_app, List.nil_append, ← kR_app, List.nil_append]
    unfold kR
    rw [List.foldr_append]
    rfl
  rw [h]
  exact Ent.hall_close _ _ _

/-! ### a line's outcome -/
theorem take_none {r : Scr} {s : Bs} (h : wordsL s = none) : takeS r s = .error 261 := by unfold takeS; rw [h]
theorem take_nil {r : Scr} {s : Bs} (h : wordsL s = some []) : takeS r s = .ok r := by unfold takeS; rw [h]
theorem isStore (w : Tok) : decide (w = ⟨wStore, false⟩) = (!w.t && decide (w.s = wStore)) := by
  obtain ⟨s, t⟩ := w
  cases t <;> by_cases h : s = wStore <;> simp [h]
theorem take_cons {r : Scr} {s : Bs} {w : Tok} {ws : List Tok} (h : wordsL s = some (w :: ws)) : takeS r s =
    (if r.c.isNone ∧ (!w.t && decide (w.s = wStore)) = false then .error 263
    else if r.c.isSome ∧ (!w.t && decide (w.s = wStore)) = true then .error 260
    else match fitsOf (w :: ws) with
      | .error e => .error e
      | .ok f =>
        if (!w.t && decide (w.s = wStore)) = true then .ok { r with c := some f.n }
        else if 4096 ≤ r.a.length then .error 3
        else .ok { r with a := r.a ++ [actOf w.s f] }) := by
  unfold takeS; rw [h]; simp only [isStore]; rfl
/-- what 'fits' and 'numbers' say of a line -/
theorem fits_bad {w : Tok} {ws : List Tok} (h : w.t = true ∨ formOf w.s = none) : fitsOf (w :: ws) = .error 260 := by
  unfold fitsOf
  simp only
  cases hf : formOf w.s with
  | none => rfl
  | some cs =>
    simp only
    rcases h with h | h
    · rw [if_pos (.inl h)]
    · rw [hf] at h; cases h
theorem fits_bad2 {w : Tok} {ws : List Tok} {cs : Bs} (hf : formOf w.s = some cs) (h : fitsR ws (cs.map shp) = false) : fitsOf (w :: ws) = .error 260 := by
  rw [fits_shp ws (form_let _ _ hf)] at h
  unfold fitsOf
  simp only [hf]
  rw [if_pos]
  right
  by_cases hl : ws.length = cs.length
  · right
    rw [decide_eq_true hl, Bool.true_and] at h
    rw [h]; simp
  · exact .inl hl
theorem fits_parts {w : Tok} {ws : List Tok} {cs : Bs} (hf : formOf w.s = some cs) (h : fitsR ws (cs.map shp) = true) : ws.length = cs.length ∧ (List.zip cs ws).all (fun p => kindOk p.1 p.2) = true := by
  rw [fits_shp ws (form_let _ _ hf), Bool.and_eq_true] at h
  exact ⟨of_decide_eq_true h.1, h.2⟩
theorem fits_nums {w : Tok} {ws : List Tok} {cs : Bs} (ht : w.t = false) (hf : formOf w.s = some cs) (h : fitsR ws (cs.map shp) = true) (hn : ∀ x ∈ ws, x.t = false → x.s ≠ []) :
    (numsR ws (cs.map shp) = false → fitsOf (w :: ws) = .error 262) ∧ (numsR ws (cs.map shp) = true → ∃ f, addVals ⟨[], [], []⟩ cs ws = some f ∧ fitsOf (w :: ws) = .ok f) := by
  obtain ⟨h1, h2⟩ := fits_parts hf h
  have h3 := nums_add cs ws ⟨[], [], []⟩ (form_let _ _ hf) h1 h2 hn
  have h4 : fitsOf (w :: ws) = match addVals ⟨[], [], []⟩ cs ws with
        | none => .error 262
        | some f => .ok f := by
    unfold fitsOf
    simp only [hf]
    have hno : ¬ (w.t = true ∨ ws.length ≠ cs.length ∨ ¬ (List.zip cs ws).all (fun p => kindOk p.1 p.2) = true) := by
      rintro (g | g | g)
      · rw [ht] at g; cases g
      · exact g h1
      · exact g h2
    rw [if_neg hno]
    cases addVals ⟨[], [], []⟩ cs ws <;> rfl
  constructor
  · intro h5
    rw [h5] at h3
    rw [h4]
    cases ha : addVals ⟨[], [], []⟩ cs ws with
    | none => rfl
    | some f => rw [ha] at h3; cases h3
  · intro h5
    rw [h5] at h3
    cases ha : addVals ⟨[], [], []⟩ cs ws with
    | none => rw [ha] at h3; cases h3
    | some f => exact ⟨f, rfl, by rw [h4, ha]⟩
theorem store_nums {ws : List Tok} {f : Flds} (h : addVals ⟨[], [], []⟩ [110, 110, 110, 110, 110, 110, 110] ws = some f) (hl : ws.length = 7) : ws.map numI = f.n.map (Value.int .i64) ∧ f.n.length = 7 := by
  obtain ⟨a0, a1, a2, a3, a4, a5, a6, rfl⟩ := len7 hl
  obtain ⟨v0, h0, h⟩ := av_n h
  obtain ⟨v1, h1, h⟩ := av_n h
  obtain ⟨v2, h2, h⟩ := av_n h
  obtain ⟨v3, h3, h⟩ := av_n h
  obtain ⟨v4, h4, h⟩ := av_n h
  obtain ⟨v5, h5, h⟩ := av_n h
  obtain ⟨v6, h6, h⟩ := av_n h
  obtain rfl := av_e h
  simp only [List.map_cons, List.map_nil, numI, h0, h1, h2, h3, h4, h5, h6]
  exact ⟨rfl, rfl⟩

/-- what is to be shown once, behind two ways -/
structure Hold (A : Prop) : Prop where out : A
theorem mpx {A B : Prop} (f : Hold A → B) (a : A) : B := f ⟨a⟩
theorem cutR_at {s : Bs} {i k : Nat} {d : UInt8} (h : (s.drop i).dropWhile (· != d) = s.drop k) : cutR d (s.drop i) = s.drop (k + 1) := by
  unfold cutR; rw [h, List.drop_drop]
abbrev zT : List Value := [.int .i64 0, .int .i64 0, .int .i64 0, .int .i64 0, .int .i64 0, .int .i64 0, .int .i64 0, .slice none 0 0]
theorem ak_one (p : AK) : ∀ v ∈ AK.cs p, v.oneCell' = true := by
  obtain ⟨a, z⟩ := p
  intro v hv
  simp only [List.mem_cons, List.not_mem_nil, or_false] at hv
  rcases hv with rfl | rfl | rfl | rfl | rfl | rfl | rfl | rfl | rfl <;> first | rfl | (cases z <;> rfl)
set_option maxHeartbeats 8000000 in
theorem qParse_ok (s : Bs) (hs : s.length ≤ 1073741824) : Spec Tryd.prog 10 [.string (sB s)] [] [] fun F v Rs' =>
    (∃ c l o, parseS s = .ok ⟨some c, l.map Prod.fst⟩ ∧ NOk 9 (akC l) l.length o ∧ l.length ≤ 4096 ∧ AkN l ∧ v = .tuple #[.agg (scrC c (nV l.length o)).toArray, .int .i64 0, .int .i64 0] ∧ Rs' = (7021, KP l) :: (7022, hall (oR (nG 46 (akC l)) [] o)) :: F) ∨
    (∃ er k, parseS s = .error (er, k) ∧ v = .tuple #[.agg zT.toArray, .int .i64 k, .int .i64 er] ∧ Rs' = F) := by
  refine spec_of Tryd.func10 rfl Tryd.ntmps10 rfl ?_
  intro w0 F
  repeat' (first | with_reducible (first | refine go1 ?_ | refine sct ?_ | refine scf ?_ | refine sgr ?_) | with_reducible refine sw_alloc fun b5 => ?_ | fail)
  rename_i b2
  refine sc_loop (α := { x : Nat × Int × Option (List Int) × List AK × Option (Nat × Nat × List Value) // x.1 ≤ s.length + 1 ∧ 0 ≤ x.2.1 ∧ x.2.1 ≤ x.1 ∧ NOk 9 (akC x.2.2.2.1) x.2.2.2.1.length x.2.2.2.2 ∧ x.2.2.2.1.length ≤ 4096 ∧ AkN x.2.2.2.1 ∧
      parseR ⟨x.2.2.1, x.2.2.2.1.map Prod.fst⟩ x.2.1 (s.drop x.1) = parseR ⟨none, []⟩ 0 s })
    (fun x => [(0, .string (sB s)), (2, .pointer (some ⟨b2, 0, none⟩)), (5, .pointer (some ⟨b5, 0, none⟩)), (6, .bool x.1.2.2.1.isSome), (7, .int .i64 x.1.2.1), (8, .int .i64 (x.1.1 : Int))])
    (fun x => (b5, pts b5 (.cells (scrC (x.1.2.2.1.getD []) (nV x.1.2.2.2.1.length x.1.2.2.2.2)).toArray 26 (0, 0))) :: (7021, KP x.1.2.2.2.1) :: (7022, hall (oR (nG 46 (akC x.1.2.2.2.1)) [] x.1.2.2.2.2)) ::
      (b2, pts b2 (.cells zT.toArray 26 (0, 0))) :: F)
    (fun x => s.length + 1 - x.1.1) ⟨(0, 0, none, [], none), Nat.zero_le _, Int.le_refl _, Int.le_refl _, ⟨rfl, fun _ => ⟨rfl, rfl⟩, fun b c t h => by cases h⟩, by simp, AkN.nil, rfl⟩ ?_ ?_ ?_
  · repeat' (first | exact says_nil | refine says_cons rfl ?_ | refine says_cons (by simp) ?_)
  · show Ent _ ((b5, pts b5 (.cells (scrC [] (.slice none 0 0)).toArray 26 (0, 0))) :: (7021, hall []) :: (7022, hall []) :: (b2, pts b2 (.cells zT.toArray 26 (0, 0))) :: F)
    refine Ent.trans (B := (b5, pts b5 (.cells (scrC [] (.slice none 0 0)).toArray 26 (0, 0))) :: (b2, pts b2 (.cells zT.toArray 26 (0, 0))) :: F) ?_ (Ent.cons _ ((Ent.hall_close 7022 [] _).trans (Ent.hall_close 7021 [] _)))
    repeat' (first | with_reducible exact Ent.refl _ | with_reducible refine Ent.take_eq ?_ ?_ | rfl | with_reducible refine Ent.oR ?_ | with_reducible refine Ent.trans (oR.drop _ _ _) ?_ | with_reducible refine Ent.trans (Ent.drop _ _) ?_)
  rintro ⟨⟨i, line, co, l, o⟩, hi, hk0, hk1, hN, hl, hA, hp⟩ e
  dsimp only at hi hk0 hk1 hN hl hA hp
  simp only [List.cons_append, List.nil_append]
  have hpS := parseS_eq s
  rw [← hp] at hpS
  by_cases hil : i < s.length
  rotate_left
  · have hdn : s.drop i = [] := List.drop_eq_nil_of_le (by omega)
    rw [hdn, parseR_nil] at hpS
    cases co with
    | none =>
      repeat' (first | with_reducible refine sw_in (by omega) ?_ | with_reducible (first | refine go1 ?_ | refine sct ?_ | refine scf ?_ | refine sgr ?_) | with_reducible refine sw_build zT (by kernel_rfl) ?_ | with_reducible refine sw_store_agg ?_ | (with_reducible refine sc_cond (fun h => ?_) (fun h => ?_)) <;> (try (exfalso; first | contradiction | omega | exact h Iff.rfl)) | fail)
      all_goals refine sq_resATT Tryd.results10 (by first | exact .inl rfl | exact .inr rfl) rfl ?_
      · refine ⟨_, .inr ⟨263, 1, by rw [hpS]; show Except.error ((263 : Int), max 1 line) = _; congr 2; omega, rfl, rfl⟩, ?_⟩
        repeat' (first | with_reducible exact Ent.refl _ | with_reducible refine Ent.take_eq ?_ ?_ | rfl | with_reducible refine Ent.oR ?_ | with_reducible refine Ent.trans (oR.drop _ _ _) ?_ | with_reducible refine Ent.trans (Ent.drop _ _) ?_)
      · refine ⟨_, .inr ⟨263, line, by rw [hpS]; show Except.error ((263 : Int), max 1 line) = _; congr 2; omega, rfl, rfl⟩, ?_⟩
        repeat' (first | with_reducible exact Ent.refl _ | with_reducible refine Ent.take_eq ?_ ?_ | rfl | with_reducible refine Ent.oR ?_ | with_reducible refine Ent.trans (oR.drop _ _ _) ?_ | with_reducible refine Ent.trans (Ent.drop _ _) ?_)
    | some cf =>
      repeat' (first | with_reducible refine sw_in (by omega) ?_ | with_reducible (first | refine go1 ?_ | refine sct ?_ | refine scf ?_ | refine sgr ?_) | with_reducible refine sw_store_agg ?_ | (with_reducible refine sc_cond (fun h => ?_) (fun h => ?_)) <;> (try (exfalso; first | contradiction | omega | exact h Iff.rfl)) | fail)
      refine sq_resATT Tryd.results10 (by first | exact .inl rfl | exact .inr rfl) rfl ?_
      refine ⟨_, .inl ⟨cf, l, o, by rw [hpS]; rfl, hN, hl, hA, rfl, rfl⟩, ?_⟩
      repeat' (first | with_reducible exact Ent.refl _ | with_reducible refine Ent.take_eq ?_ ?_ | rfl | with_reducible refine Ent.oR ?_ | with_reducible refine Ent.trans (oR.drop _ _ _) ?_ | with_reducible refine Ent.trans (Ent.drop _ _) ?_)
  have hne : ¬ s.drop i = [] := by rw [drop_getD hil]; simp
  rw [parseR_step _ _ _ hne] at hp hpS
  repeat' (first | with_reducible refine sw_in (by omega) ?_ | with_reducible (first | refine go1 ?_ | refine sct ?_ | refine scf ?_ | refine sgr ?_) | (with_reducible refine sc_cond (fun h => ?_) (fun h => ?_)) <;> (try (exfalso; first | contradiction | omega | exact h Iff.rfl)) | fail)
  refine sc_keep [0, 2, 5, 6, 7, 8, 9] fun e1 => ?_
  simp only [List.cons_append, List.nil_append]
  refine sc_loop (α := { k : Nat // i ≤ k ∧ k ≤ s.length ∧ ((s.take k).drop i).all (· != 10) = true })
    (fun k => [(0, .string (sB s)), (2, .pointer (some ⟨b2, 0, none⟩)), (5, .pointer (some ⟨b5, 0, none⟩)), (6, .bool co.isSome), (7, .int .i64 (line + 1)), (8, .int .i64 (i : Int)), (9, .int .i64 (k.1 : Int))])
    (fun _ => (b5, pts b5 (.cells (scrC (co.getD []) (nV l.length o)).toArray 26 (0, 0))) :: (7021, KP l) :: (7022, hall (oR (nG 46 (akC l)) [] o)) :: (b2, pts b2 (.cells zT.toArray 26 (0, 0))) :: F) (fun k => s.length - k.1)
    ⟨i, Nat.le_refl _, by omega, by rw [List.drop_eq_nil_of_le (by rw [List.length_take]; omega)]; rfl⟩ ?_ ?_ ?_
  · repeat' (first | exact says_nil | refine says_cons rfl ?_ | refine says_cons (by simp) ?_)
  · exact Ent.refl _
  rintro ⟨k, hk1', hk2, hk3⟩ e
  simp only [List.cons_append, List.nil_append]
  have hfin : (k = s.length ∨ s.getD k 0 = 10) → cutW 10 (s.drop i) = (s.take k).drop i ∧ cutR 10 (s.drop i) = s.drop (k + 1) := fun he => by
    have hw := word_at hk1' hk2 hk3 he
    exact ⟨hw.1, cutR_at hw.2⟩
  by_cases hstep : k < s.length ∧ s.getD k 0 ≠ 10
  · have hiv : ¬ iv (s.getD k 0) = 10 := fun g => hstep.2 (iv_inj g)
    have hcs : s[((k : Int)).toNat]? = some (s.getD k 0) := by rw [Int.toNat_natCast, List.getD_eq_getElem?_getD, List.getElem?_eq_getElem hstep.1]; rfl
    obtain ⟨hst1, hst2⟩ := hstep
    repeat' (first | with_reducible refine sw_in (by omega) ?_ | with_reducible (first | refine go1 ?_ | refine sct ?_ | refine scf ?_ | refine sgr ?_) | with_reducible refine sw_op (h := runop_sidx (by omega) hcs) ?_ | with_reducible refine sw_guard_skip_u ?_ | (with_reducible refine sc_cond (fun h => ?_) (fun h => ?_)) <;> (try (exfalso; first | contradiction | omega | exact h Iff.rfl)) | (with_reducible refine sw_guard_split (fun h => ?_) (fun h => ?_)) <;> (try (exfalso; first | contradiction | omega | exact h Iff.rfl)) | (with_reducible refine sw_pick (fun h => ?_) (fun h => ?_)) <;> (try (exfalso; first | contradiction | omega | exact h Iff.rfl)) | fail)
    refine sq_round ⟨k + 1, by omega, by omega, ?_⟩ (by show s.length - (k + 1) < s.length - k; omega) ?_ ?_
    · rw [part_step hk1' (by omega), List.all_append, hk3]
      simpa using hst2
    · repeat' (first | exact says_nil | refine says_cons rfl ?_ | refine says_cons (by simp) ?_)
    · exact Ent.refl _
  have he : k = s.length ∨ s.getD k 0 = 10 := by
    rcases Nat.lt_or_ge k s.length with g | g
    · exact .inr (Classical.byContradiction fun g2 => hstep ⟨g, g2⟩)
    · exact .inl (by omega)
  obtain ⟨hcw, hcr⟩ := hfin he
  clear hfin hstep
  apply mpx
  case f =>
    intro a
    rcases Nat.lt_or_ge k s.length with hg | hg
    · have hcs : s[((k : Int)).toNat]? = some (s.getD k 0) := by rw [Int.toNat_natCast, List.getD_eq_getElem?_getD, List.getElem?_eq_getElem hg]; rfl
      have hk10 : iv (s.getD k 0) = 10 := by rw [he.resolve_left (by omega)]; rfl
      repeat' (first | with_reducible refine sw_in (by omega) ?_ | with_reducible (first | refine go1 ?_ | refine sct ?_ | refine scf ?_ | refine sgr ?_) | with_reducible refine sw_op (h := runop_sidx (by omega) hcs) ?_ | with_reducible refine sw_guard_skip_u ?_ | (with_reducible refine sc_cond (fun h => ?_) (fun h => ?_)) <;> (try (exfalso; first | contradiction | omega | exact h Iff.rfl)) | (with_reducible refine sw_guard_split (fun h => ?_) (fun h => ?_)) <;> (try (exfalso; first | contradiction | omega | exact h Iff.rfl)) | (with_reducible refine sw_pick (fun h => ?_) (fun h => ?_)) <;> (try (exfalso; first | contradiction | omega | exact h Iff.rfl)) | fail)
      refine sw_keep [0, 2, 5, 6, 7, 8, 9, 34, 35, 36] ?_
      exact a.out
    · repeat' (first | with_reducible refine sw_in (by omega) ?_ | with_reducible (first | refine go1 ?_ | refine sct ?_ | refine scf ?_ | refine sgr ?_) | with_reducible refine sw_guard_skip_u ?_ | (with_reducible refine sc_cond (fun h => ?_) (fun h => ?_)) <;> (try (exfalso; first | contradiction | omega | exact h Iff.rfl)) | (with_reducible refine sw_guard_split (fun h => ?_) (fun h => ?_)) <;> (try (exfalso; first | contradiction | omega | exact h Iff.rfl)) | (with_reducible refine sw_pick (fun h => ?_) (fun h => ?_)) <;> (try (exfalso; first | contradiction | omega | exact h Iff.rfl)) | fail)
      refine sw_keep [0, 2, 5, 6, 7, 8, 9, 34, 35, 36] ?_
      exact a.out
  case a =>
    intro e2
    simp only [List.cons_append, List.nil_append]
    rw [hcw, hcr] at hp hpS
    obtain ⟨x, hxe⟩ : ∃ x, (s.take k).drop i = x := ⟨_, rfl⟩
    have hxl : x.length ≤ 1073741824 := by rw [← hxe, List.length_drop, List.length_take]; omega
    rw [hxe] at hp hpS
    repeat' (first | with_reducible refine sw_in (by omega) ?_ | with_reducible (first | refine go1 ?_ | refine sct ?_ | refine scf ?_ | refine sgr ?_) | with_reducible refine sw_op (h := runop_spart (by omega)) ?_ | fail)
    simp only [Int.toNat_natCast, hxe]
    refine sw_callf (qTokens_ok x hxl) ?_
    rintro _ _ (⟨tl, ot, hw, hNt, rfl, rfl⟩ | ⟨hw, rfl, rfl⟩)
    · have hnl : ot = none → tl.length = 0 := fun h => (hNt.2.1 h).2
      cases tl with
      | nil =>
        have htk := take_nil (r := ⟨co, l.map Prod.fst⟩) hw
        rw [htk] at hp
        repeat' (first | with_reducible refine sw_in (by omega) ?_ | with_reducible (first | refine go1 ?_ | refine sct ?_ | refine scf ?_ | refine sgr ?_) | with_reducible refine sw_op (h := runop_lenNV ot hnl) ?_ | (with_reducible refine sc_cond (fun h => ?_) (fun h => ?_)) <;> (try (exfalso; first | contradiction | omega | exact h Iff.rfl)) | fail)
        all_goals (first | (exfalso; rename_i h; exact h rfl) | skip)
        refine sq_round ⟨(k + 1, line + 1, co, l, o), by dsimp only; omega, by dsimp only; omega, by dsimp only; omega, hN, hl, hA, hp⟩ (by show s.length + 1 - (k + 1) < s.length + 1 - i; omega) ?_ ?_
        · repeat' (first | exact says_nil | refine says_cons rfl ?_ | refine says_cons (by simp) ?_)
        · repeat' (first | with_reducible exact Ent.refl _ | with_reducible refine Ent.take_eq ?_ ?_ | rfl | with_reducible refine Ent.oR ?_ | with_reducible refine Ent.trans (oR.drop _ _ _) ?_ | with_reducible refine Ent.trans (Ent.drop _ _) ?_)
      | cons w ws =>
        cases ot with
        | none => have := hnl rfl; simp at this
        | some bt =>
          obtain ⟨b, c, t⟩ := bt
          obtain ⟨hNa, _, hNc⟩ := hNt
          obtain ⟨hcap, hcl⟩ := hNc b c t rfl
          have hlen : (w :: ws).length = ws.length + 1 := rfl
          rw [hlen] at hcap
          rw [show nV (w :: ws).length (some (b, c, t)) = .slice (some ⟨b, 0, none⟩) (ws.length + 1) c from rfl, nG_some]
          have htk := take_cons (r := ⟨co, l.map Prod.fst⟩) hw
          have hs0 : (tokC (w :: ws) ++ t)[0 + 0 * 2 + 0]? = some (.string (sB w.s)) := tokC_s (w :: ws) t 0 (by omega)
          have ht0 : (tokC (w :: ws) ++ t)[0 + 0 * 2 + 1]? = some (.bool w.t) := tokC_t (w :: ws) t 0 (by omega)
          obtain ⟨hb1, hb2⟩ := words_bound _ _ _ (Nat.le_refl _) hw
          have hwn := words_ne _ _ _ (Nat.le_refl _) hw
          obtain ⟨o1, ho1⟩ : ∃ o1, (if c = 1 then 0 else 2) = o1 := ⟨_, rfl⟩
          have hBeh : Beh w ws o1 (c - 1) t := Beh.of fun h => by rw [← ho1, if_neg (by omega)]
          have hF := fun cs => qFits_ok w ws b o1 (c - 1) t cs hBeh (by omega)
          have hsz : ∀ y ∈ ws, y.s.length ≤ 1073741824 := fun y hy => by have := hb2 y (by simp [hy]); omega
          have hwn2 : ∀ y ∈ ws, y.t = false → y.s ≠ [] := fun y hy => hwn y (by simp [hy])
          have hwl : ws.length ≤ 1073741824 := by rw [hlen] at hb1; omega
          clear hb1 hb2 hwn hNa hNc hcl hnl
          obtain ⟨z, zt⟩ := w
          simp only at hs0 ht0 htk
          have hSh := qShape_ok z
          cases zt with
          | true =>
            cases co with
            | none =>
              simp only [Option.isSome_none, Option.getD_none, Option.isNone_none] at htk ⊢
              have hpan : takeS ⟨none, l.map Prod.fst⟩ x = .error 263 := by rw [htk]; simp
              repeat' (first | with_reducible refine sw_in (by omega) ?_ | with_reducible (first | refine go1 ?_ | refine sct ?_ | refine scf ?_ | refine sgr ?_) | with_reducible refine sw_op (h := runop_lenNV (m := ws.length + 1) (some (b, c, t)) (fun h => by cases h)) ?_ | with_reducible refine sw_indexN 0 ⟨rfl, by omega⟩ ?_ | with_reducible refine sw_loadAt (.bool true) ht0 ?_ | with_reducible refine sw_loadAt (.string (sB z)) hs0 ?_ | with_reducible refine sw_op (h := runop_tail o1 hcap ho1) ?_ | with_reducible refine sw_guard_skip_u ?_ | (with_reducible refine sc_cond (fun h => ?_) (fun h => ?_)) <;> (try (exfalso; first | contradiction | omega | exact h Iff.rfl)) | (with_reducible refine sw_guard_split (fun h => ?_) (fun h => ?_)) <;> (try (exfalso; first | contradiction | omega | exact h Iff.rfl)) | (with_reducible refine sw_pick (fun h => ?_) (fun h => ?_)) <;> (try (exfalso; first | contradiction | omega | exact h Iff.rfl)) | fail)
              repeat' (first | with_reducible (first | refine go1 ?_ | refine sct ?_ | refine scf ?_ | refine sgr ?_) | with_reducible refine sw_build zT (by kernel_rfl) ?_ | with_reducible refine sw_store_agg ?_ | fail)
              refine sq_resATT Tryd.results10 (by first | exact .inl rfl | exact .inr rfl) rfl ?_
              refine ⟨_, .inr ⟨263, line + 1, by rw [hpS, hpan], rfl, rfl⟩, ?_⟩
              repeat' (first | with_reducible exact Ent.refl _ | with_reducible refine Ent.take_eq ?_ ?_ | rfl | with_reducible refine Ent.oR ?_ | with_reducible refine Ent.trans (oR.drop _ _ _) ?_ | with_reducible refine Ent.trans (Ent.drop _ _) ?_)
            | some cf =>
              simp only [Option.isSome_some, Option.getD_some, Option.isNone_some] at htk ⊢
              have hfb := fits_bad (w := ⟨z, true⟩) (ws := ws) (.inl rfl)
              have hpan : takeS ⟨some cf, l.map Prod.fst⟩ x = .error 260 := by rw [htk, hfb]; simp
              cases hf : formOf z with
              | none =>
                rw [shapeV_none hf] at hSh
                repeat' (first | with_reducible refine sw_in (by omega) ?_ | with_reducible (first | refine go1 ?_ | refine sct ?_ | refine scf ?_ | refine sgr ?_) | ((with_reducible refine sw_callf hSh ?_); rintro _ _ ⟨rfl, rfl⟩) | with_reducible refine sw_op (h := runop_lenNV (m := ws.length + 1) (some (b, c, t)) (fun h => by cases h)) ?_ | with_reducible refine sw_indexN 0 ⟨rfl, by omega⟩ ?_ | with_reducible refine sw_loadAt (.bool true) ht0 ?_ | with_reducible refine sw_loadAt (.string (sB z)) hs0 ?_ | with_reducible refine sw_op (h := runop_tail o1 hcap ho1) ?_ | with_reducible refine sw_guard_skip_u ?_ | (with_reducible refine sc_cond (fun h => ?_) (fun h => ?_)) <;> (try (exfalso; first | contradiction | omega | exact h Iff.rfl)) | (with_reducible refine sw_guard_split (fun h => ?_) (fun h => ?_)) <;> (try (exfalso; first | contradiction | omega | exact h Iff.rfl)) | (with_reducible refine sw_pick (fun h => ?_) (fun h => ?_)) <;> (try (exfalso; first | contradiction | omega | exact h Iff.rfl)) | fail)
                repeat' (first | with_reducible (first | refine go1 ?_ | refine sct ?_ | refine scf ?_ | refine sgr ?_) | with_reducible refine sw_build zT (by kernel_rfl) ?_ | with_reducible refine sw_store_agg ?_ | fail)
                refine sq_resATT Tryd.results10 (by first | exact .inl rfl | exact .inr rfl) rfl ?_
                refine ⟨_, .inr ⟨260, line + 1, by rw [hpS, hpan], rfl, rfl⟩, ?_⟩
                repeat' (first | with_reducible exact Ent.refl _ | with_reducible refine Ent.take_eq ?_ ?_ | rfl | with_reducible refine Ent.oR ?_ | with_reducible refine Ent.trans (oR.drop _ _ _) ?_ | with_reducible refine Ent.trans (Ent.drop _ _) ?_)
              | some cs =>
                rw [shapeV_of hf] at hSh
                repeat' (first | with_reducible refine sw_in (by omega) ?_ | with_reducible (first | refine go1 ?_ | refine sct ?_ | refine scf ?_ | refine sgr ?_) | ((with_reducible refine sw_callf hSh ?_); rintro _ _ ⟨rfl, rfl⟩) | with_reducible refine sw_op (h := runop_lenNV (m := ws.length + 1) (some (b, c, t)) (fun h => by cases h)) ?_ | with_reducible refine sw_indexN 0 ⟨rfl, by omega⟩ ?_ | with_reducible refine sw_loadAt (.bool true) ht0 ?_ | with_reducible refine sw_loadAt (.string (sB z)) hs0 ?_ | with_reducible refine sw_op (h := runop_tail o1 hcap ho1) ?_ | with_reducible refine sw_guard_skip_u ?_ | (with_reducible refine sc_cond (fun h => ?_) (fun h => ?_)) <;> (try (exfalso; first | contradiction | omega | exact h Iff.rfl)) | (with_reducible refine sw_guard_split (fun h => ?_) (fun h => ?_)) <;> (try (exfalso; first | contradiction | omega | exact h Iff.rfl)) | (with_reducible refine sw_pick (fun h => ?_) (fun h => ?_)) <;> (try (exfalso; first | contradiction | omega | exact h Iff.rfl)) | fail)
                repeat' (first | with_reducible (first | refine go1 ?_ | refine sct ?_ | refine scf ?_ | refine sgr ?_) | with_reducible refine sw_build zT (by kernel_rfl) ?_ | with_reducible refine sw_store_agg ?_ | fail)
                refine sq_resATT Tryd.results10 (by first | exact .inl rfl | exact .inr rfl) rfl ?_
                refine ⟨_, .inr ⟨260, line + 1, by rw [hpS, hpan], rfl, rfl⟩, ?_⟩
                repeat' (first | with_reducible exact Ent.refl _ | with_reducible refine Ent.take_eq ?_ ?_ | rfl | with_reducible refine Ent.oR ?_ | with_reducible refine Ent.trans (oR.drop _ _ _) ?_ | with_reducible refine Ent.trans (Ent.drop _ _) ?_)
          | false =>
            cases co with
            | none =>
              simp only [Option.isSome_none, Option.getD_none, Option.isNone_none] at htk ⊢
              by_cases hz : z = wStore
              · subst hz
                have hf : formOf wStore = some [110, 110, 110, 110, 110, 110, 110] := by decide +kernel
                rw [shapeV_of hf] at hSh
                have hF := hF ([110, 110, 110, 110, 110, 110, 110].map shp)
                have hfb2 := fits_bad2 (w := ⟨wStore, false⟩) (ws := ws) hf
                have hfp := fits_parts (w := ⟨wStore, false⟩) (ws := ws) hf
                have hfn := fun h => fits_nums (w := ⟨wStore, false⟩) (ws := ws) rfl hf h hwn2
                have hNm := fun h => qNumbers_ok ⟨wStore, false⟩ ws b o1 (c - 1) t ([110, 110, 110, 110, 110, 110, 110].map shp) hBeh h hwl hsz
                have hlm : (([110, 110, 110, 110, 110, 110, 110] : Bs).map shp).length = 7 := rfl
                have hl7 : ([110, 110, 110, 110, 110, 110, 110] : Bs).length = 7 := rfl
                have hst := fun f => store_nums (ws := ws) (f := f)
                generalize ([110, 110, 110, 110, 110, 110, 110] : Bs).map shp = fm at *
                cases hfr : fitsR ws fm with
                | false =>
                  have hpan : takeS ⟨none, l.map Prod.fst⟩ x = .error 260 := by rw [htk, hfb2 hfr]; simp
                  rw [hfr] at hF
                  repeat' (first | with_reducible refine sw_in (by omega) ?_ | with_reducible (first | refine go1 ?_ | refine sct ?_ | refine scf ?_ | refine sgr ?_) | ((with_reducible refine sw_callf hSh ?_); rintro _ _ ⟨rfl, rfl⟩) | ((with_reducible refine sw_callf hF ?_); rintro _ _ ⟨rfl, rfl⟩) | with_reducible refine sw_op (h := runop_lenNV (m := ws.length + 1) (some (b, c, t)) (fun h => by cases h)) ?_ | with_reducible refine sw_indexN 0 ⟨rfl, by omega⟩ ?_ | with_reducible refine sw_loadAt (.bool false) ht0 ?_ | with_reducible refine sw_loadAt (.string (sB wStore)) hs0 ?_ | with_reducible refine sw_op (h := runop_tail o1 hcap ho1) ?_ | with_reducible refine sw_guard_skip_u ?_ | (with_reducible refine sc_cond (fun h => ?_) (fun h => ?_)) <;> (try (exfalso; first | contradiction | omega | exact h Iff.rfl)) | (with_reducible refine sw_guard_split (fun h => ?_) (fun h => ?_)) <;> (try (exfalso; first | contradiction | omega | exact h Iff.rfl)) | (with_reducible refine sw_pick (fun h => ?_) (fun h => ?_)) <;> (try (exfalso; first | contradiction | omega | exact h Iff.rfl)) | fail)
                  repeat' (first | with_reducible (first | refine go1 ?_ | refine sct ?_ | refine scf ?_ | refine sgr ?_) | with_reducible refine sw_build zT (by kernel_rfl) ?_ | with_reducible refine sw_store_agg ?_ | fail)
                  refine sq_resATT Tryd.results10 (by first | exact .inl rfl | exact .inr rfl) rfl ?_
                  refine ⟨_, .inr ⟨260, line + 1, by rw [hpS, hpan], rfl, rfl⟩, ?_⟩
                  repeat' (first | with_reducible exact Ent.refl _ | with_reducible refine Ent.take_eq ?_ ?_ | rfl | with_reducible refine Ent.oR ?_ | with_reducible refine Ent.trans (oR.drop _ _ _) ?_ | with_reducible refine Ent.trans (Ent.drop _ _) ?_)
                | true =>
                  obtain ⟨hlc, hka⟩ := hfp hfr
                  have hfn := hfn hfr
                  have hNm := hNm (by omega)
                  rw [hfr] at hF
                  cases hnr : numsR ws fm with
                  | false =>
                    have hpan : takeS ⟨none, l.map Prod.fst⟩ x = .error 262 := by rw [htk, hfn.1 hnr]; simp
                    rw [hnr] at hNm
                    repeat' (first | with_reducible refine sw_in (by omega) ?_ | with_reducible (first | refine go1 ?_ | refine sct ?_ | refine scf ?_ | refine sgr ?_) | ((with_reducible refine sw_callf hSh ?_); rintro _ _ ⟨rfl, rfl⟩) | ((with_reducible refine sw_callf hF ?_); rintro _ _ ⟨rfl, rfl⟩) | ((with_reducible refine sw_callf hNm ?_); rintro _ _ ⟨rfl, rfl⟩) | with_reducible refine sw_op (h := runop_lenNV (m := ws.length + 1) (some (b, c, t)) (fun h => by cases h)) ?_ | with_reducible refine sw_indexN 0 ⟨rfl, by omega⟩ ?_ | with_reducible refine sw_loadAt (.bool false) ht0 ?_ | with_reducible refine sw_loadAt (.string (sB wStore)) hs0 ?_ | with_reducible refine sw_op (h := runop_tail o1 hcap ho1) ?_ | with_reducible refine sw_guard_skip_u ?_ | (with_reducible refine sc_cond (fun h => ?_) (fun h => ?_)) <;> (try (exfalso; first | contradiction | omega | exact h Iff.rfl)) | (with_reducible refine sw_guard_split (fun h => ?_) (fun h => ?_)) <;> (try (exfalso; first | contradiction | omega | exact h Iff.rfl)) | (with_reducible refine sw_pick (fun h => ?_) (fun h => ?_)) <;> (try (exfalso; first | contradiction | omega | exact h Iff.rfl)) | fail)
                    repeat' (first | with_reducible (first | refine go1 ?_ | refine sct ?_ | refine scf ?_ | refine sgr ?_) | with_reducible refine sw_build zT (by kernel_rfl) ?_ | with_reducible refine sw_store_agg ?_ | fail)
                    refine sq_resATT Tryd.results10 (by first | exact .inl rfl | exact .inr rfl) rfl ?_
                    refine ⟨_, .inr ⟨262, line + 1, by rw [hpS, hpan], rfl, rfl⟩, ?_⟩
                    repeat' (first | with_reducible exact Ent.refl _ | with_reducible refine Ent.take_eq ?_ ?_ | rfl | with_reducible refine Ent.oR ?_ | with_reducible refine Ent.trans (oR.drop _ _ _) ?_ | with_reducible refine Ent.trans (Ent.drop _ _) ?_)
                  | true =>
                    obtain ⟨⟨fn, ft, fk⟩, hav, hfit⟩ := hfn.2 hnr
                    rw [hnr] at hNm
                    obtain ⟨hst1, hst2⟩ := hst _ hav (by omega)
                    have hCf := qConfig_ok ⟨wStore, false⟩ ws b o1 (c - 1) t hBeh (by omega) hsz
                    rw [hst1] at hCf
                    have htk' : takeS ⟨none, l.map Prod.fst⟩ x = .ok ⟨some fn, l.map Prod.fst⟩ := by rw [htk, hfit]; simp
                    rw [htk'] at hp
                    simp only at hst2
                    obtain ⟨n0, n1, n2, n3, n4, n5, n6, rfl⟩ : ∃ n0 n1 n2 n3 n4 n5 n6, fn = [n0, n1, n2, n3, n4, n5, n6] := by
                      match fn, hst2 with
                      | [a, b, c, d, e, f, g], _ => exact ⟨a, b, c, d, e, f, g, rfl⟩
                    simp only [List.map_cons, List.map_nil] at hCf
                    have e7 : ∀ (a0 a1 a2 a3 a4 a5 a6 u : Value), ([a0, a1, a2, a3, a4, a5, a6, u] : List Value).take 0 ++ [.int .i64 n0, .int .i64 n1, .int .i64 n2, .int .i64 n3, .int .i64 n4, .int .i64 n5, .int .i64 n6] ++ ([a0, a1, a2, a3, a4, a5, a6, u] : List Value).drop (0 + 7) = scrC [n0, n1, n2, n3, n4, n5, n6] u := fun _ _ _ _ _ _ _ _ => rfl
                    repeat' (first | with_reducible refine sw_in (by omega) ?_ | with_reducible (first | refine go1 ?_ | refine sct ?_ | refine scf ?_ | refine sgr ?_) | ((with_reducible refine sw_callf hSh ?_); rintro _ _ ⟨rfl, rfl⟩) | ((with_reducible refine sw_callf hF ?_); rintro _ _ ⟨rfl, rfl⟩) | ((with_reducible refine sw_callf hNm ?_); rintro _ _ ⟨rfl, rfl⟩) | ((with_reducible refine sw_callf hCf ?_); rintro _ _ ⟨rfl, rfl⟩) | with_reducible refine sw_storePart (scrC [n0, n1, n2, n3, n4, n5, n6] (nV l.length o)) (by simp) (e7 _ _ _ _ _ _ _ _) ?_ | with_reducible refine sw_op (h := runop_lenNV (m := ws.length + 1) (some (b, c, t)) (fun h => by cases h)) ?_ | with_reducible refine sw_indexN 0 ⟨rfl, by omega⟩ ?_ | with_reducible refine sw_loadAt (.bool false) ht0 ?_ | with_reducible refine sw_loadAt (.string (sB wStore)) hs0 ?_ | with_reducible refine sw_op (h := runop_tail o1 hcap ho1) ?_ | with_reducible refine sw_guard_skip_u ?_ | (with_reducible refine sc_cond (fun h => ?_) (fun h => ?_)) <;> (try (exfalso; first | contradiction | omega | exact h Iff.rfl)) | (with_reducible refine sw_guard_split (fun h => ?_) (fun h => ?_)) <;> (try (exfalso; first | contradiction | omega | exact h Iff.rfl)) | (with_reducible refine sw_pick (fun h => ?_) (fun h => ?_)) <;> (try (exfalso; first | contradiction | omega | exact h Iff.rfl)) | fail)
                    refine sq_round ⟨(k + 1, line + 1, some [n0, n1, n2, n3, n4, n5, n6], l, o), by dsimp only; omega, by dsimp only; omega, by dsimp only; omega, hN, hl, hA, hp⟩ (by show s.length + 1 - (k + 1) < s.length + 1 - i; omega) ?_ ?_
                    · repeat' (first | exact says_nil | refine says_cons rfl ?_ | refine says_cons (by simp) ?_)
                    · repeat' (first | with_reducible exact Ent.refl _ | with_reducible refine Ent.take_eq ?_ ?_ | rfl | with_reducible refine Ent.oR ?_ | with_reducible refine Ent.trans (oR.drop _ _ _) ?_ | with_reducible refine Ent.trans (Ent.drop _ _) ?_)
              · have hpan : takeS ⟨none, l.map Prod.fst⟩ x = .error 263 := by rw [htk]; simp [hz]
                unfold wStore at hz
                repeat' (first | with_reducible refine sw_in (by omega) ?_ | with_reducible (first | refine go1 ?_ | refine sct ?_ | refine scf ?_ | refine sgr ?_) | with_reducible refine sw_op (h := runop_lenNV (m := ws.length + 1) (some (b, c, t)) (fun h => by cases h)) ?_ | with_reducible refine sw_indexN 0 ⟨rfl, by omega⟩ ?_ | with_reducible refine sw_loadAt (.bool false) ht0 ?_ | with_reducible refine sw_loadAt (.string (sB z)) hs0 ?_ | with_reducible refine sw_op (h := runop_tail o1 hcap ho1) ?_ | with_reducible refine sw_guard_skip_u ?_ | (with_reducible refine sc_cond (fun h => ?_) (fun h => ?_)) <;> (try (exfalso; first | contradiction | omega | exact h Iff.rfl)) | (with_reducible refine sw_guard_split (fun h => ?_) (fun h => ?_)) <;> (try (exfalso; first | contradiction | omega | exact h Iff.rfl)) | (with_reducible refine sw_pick (fun h => ?_) (fun h => ?_)) <;> (try (exfalso; first | contradiction | omega | exact h Iff.rfl)) | fail)
                repeat' (first | with_reducible (first | refine go1 ?_ | refine sct ?_ | refine scf ?_ | refine sgr ?_) | with_reducible refine sw_build zT (by kernel_rfl) ?_ | with_reducible refine sw_store_agg ?_ | fail)
                refine sq_resATT Tryd.results10 (by first | exact .inl rfl | exact .inr rfl) rfl ?_
                refine ⟨_, .inr ⟨263, line + 1, by rw [hpS, hpan], rfl, rfl⟩, ?_⟩
                repeat' (first | with_reducible exact Ent.refl _ | with_reducible refine Ent.take_eq ?_ ?_ | rfl | with_reducible refine Ent.oR ?_ | with_reducible refine Ent.trans (oR.drop _ _ _) ?_ | with_reducible refine Ent.trans (Ent.drop _ _) ?_)
            | some cf =>
              simp only [Option.isSome_some, Option.getD_some, Option.isNone_some] at htk ⊢
              cases hf : formOf z with
              | none =>
                have hfb := fits_bad (w := ⟨z, false⟩) (ws := ws) (.inr hf)
                have hpan : takeS ⟨some cf, l.map Prod.fst⟩ x = .error 260 := by rw [htk, hfb]; simp
                rw [shapeV_none hf] at hSh
                repeat' (first | with_reducible refine sw_in (by omega) ?_ | with_reducible (first | refine go1 ?_ | refine sct ?_ | refine scf ?_ | refine sgr ?_) | ((with_reducible refine sw_callf hSh ?_); rintro _ _ ⟨rfl, rfl⟩) | with_reducible refine sw_op (h := runop_lenNV (m := ws.length + 1) (some (b, c, t)) (fun h => by cases h)) ?_ | with_reducible refine sw_indexN 0 ⟨rfl, by omega⟩ ?_ | with_reducible refine sw_loadAt (.bool false) ht0 ?_ | with_reducible refine sw_loadAt (.string (sB z)) hs0 ?_ | with_reducible refine sw_op (h := runop_tail o1 hcap ho1) ?_ | with_reducible refine sw_guard_skip_u ?_ | (with_reducible refine sc_cond (fun h => ?_) (fun h => ?_)) <;> (try (exfalso; first | contradiction | omega | exact h Iff.rfl)) | (with_reducible refine sw_guard_split (fun h => ?_) (fun h => ?_)) <;> (try (exfalso; first | contradiction | omega | exact h Iff.rfl)) | (with_reducible refine sw_pick (fun h => ?_) (fun h => ?_)) <;> (try (exfalso; first | contradiction | omega | exact h Iff.rfl)) | fail)
                repeat' (first | with_reducible (first | refine go1 ?_ | refine sct ?_ | refine scf ?_ | refine sgr ?_) | with_reducible refine sw_build zT (by kernel_rfl) ?_ | with_reducible refine sw_store_agg ?_ | fail)
                refine sq_resATT Tryd.results10 (by first | exact .inl rfl | exact .inr rfl) rfl ?_
                refine ⟨_, .inr ⟨260, line + 1, by rw [hpS, hpan], rfl, rfl⟩, ?_⟩
                repeat' (first | with_reducible exact Ent.refl _ | with_reducible refine Ent.take_eq ?_ ?_ | rfl | with_reducible refine Ent.oR ?_ | with_reducible refine Ent.trans (oR.drop _ _ _) ?_ | with_reducible refine Ent.trans (Ent.drop _ _) ?_)
              | some cs =>
                rw [shapeV_of hf] at hSh
                have hF := hF (cs.map shp)
                have hlm : (cs.map shp).length = cs.length := List.length_map ..
                have hfb2 := fits_bad2 (w := ⟨z, false⟩) (ws := ws) hf
                have hfp := fits_parts (w := ⟨z, false⟩) (ws := ws) hf
                have hfn := fun h => fits_nums (w := ⟨z, false⟩) (ws := ws) rfl hf h hwn2
                have hNm := fun h => qNumbers_ok ⟨z, false⟩ ws b o1 (c - 1) t (cs.map shp) hBeh h hwl hsz
                cases hfr : fitsR ws (cs.map shp) with
                | false =>
                  have hpan : takeS ⟨some cf, l.map Prod.fst⟩ x = .error 260 := by rw [htk, hfb2 hfr]; simp
                  rw [hfr] at hF
                  repeat' (first | with_reducible refine sw_in (by omega) ?_ | with_reducible (first | refine go1 ?_ | refine sct ?_ | refine scf ?_ | refine sgr ?_) | ((with_reducible refine sw_callf hSh ?_); rintro _ _ ⟨rfl, rfl⟩) | ((with_reducible refine sw_callf hF ?_); rintro _ _ ⟨rfl, rfl⟩) | with_reducible refine sw_op (h := runop_lenNV (m := ws.length + 1) (some (b, c, t)) (fun h => by cases h)) ?_ | with_reducible refine sw_indexN 0 ⟨rfl, by omega⟩ ?_ | with_reducible refine sw_loadAt (.bool false) ht0 ?_ | with_reducible refine sw_loadAt (.string (sB z)) hs0 ?_ | with_reducible refine sw_op (h := runop_tail o1 hcap ho1) ?_ | with_reducible refine sw_guard_skip_u ?_ | (with_reducible refine sc_cond (fun h => ?_) (fun h => ?_)) <;> (try (exfalso; first | contradiction | omega | exact h Iff.rfl)) | (with_reducible refine sw_guard_split (fun h => ?_) (fun h => ?_)) <;> (try (exfalso; first | contradiction | omega | exact h Iff.rfl)) | (with_reducible refine sw_pick (fun h => ?_) (fun h => ?_)) <;> (try (exfalso; first | contradiction | omega | exact h Iff.rfl)) | fail)
                  repeat' (first | with_reducible (first | refine go1 ?_ | refine sct ?_ | refine scf ?_ | refine sgr ?_) | with_reducible refine sw_build zT (by kernel_rfl) ?_ | with_reducible refine sw_store_agg ?_ | fail)
                  refine sq_resATT Tryd.results10 (by first | exact .inl rfl | exact .inr rfl) rfl ?_
                  refine ⟨_, .inr ⟨260, line + 1, by rw [hpS, hpan], rfl, rfl⟩, ?_⟩
                  repeat' (first | with_reducible exact Ent.refl _ | with_reducible refine Ent.take_eq ?_ ?_ | rfl | with_reducible refine Ent.oR ?_ | with_reducible refine Ent.trans (oR.drop _ _ _) ?_ | with_reducible refine Ent.trans (Ent.drop _ _) ?_)
                | true =>
                  obtain ⟨hlc, hka⟩ := hfp hfr
                  have hfn := hfn hfr
                  have hNm := hNm (by omega)
                  rw [hfr] at hF
                  by_cases hz : z = wStore
                  · have hpan : takeS ⟨some cf, l.map Prod.fst⟩ x = .error 260 := by rw [htk]; simp [hz]
                    unfold wStore at hz
                    repeat' (first | with_reducible refine sw_in (by omega) ?_ | with_reducible (first | refine go1 ?_ | refine sct ?_ | refine scf ?_ | refine sgr ?_) | ((with_reducible refine sw_callf hSh ?_); rintro _ _ ⟨rfl, rfl⟩) | ((with_reducible refine sw_callf hF ?_); rintro _ _ ⟨rfl, rfl⟩) | with_reducible refine sw_op (h := runop_lenNV (m := ws.length + 1) (some (b, c, t)) (fun h => by cases h)) ?_ | with_reducible refine sw_indexN 0 ⟨rfl, by omega⟩ ?_ | with_reducible refine sw_loadAt (.bool false) ht0 ?_ | with_reducible refine sw_loadAt (.string (sB z)) hs0 ?_ | with_reducible refine sw_op (h := runop_tail o1 hcap ho1) ?_ | with_reducible refine sw_guard_skip_u ?_ | (with_reducible refine sc_cond (fun h => ?_) (fun h => ?_)) <;> (try (exfalso; first | contradiction | omega | exact h Iff.rfl)) | (with_reducible refine sw_guard_split (fun h => ?_) (fun h => ?_)) <;> (try (exfalso; first | contradiction | omega | exact h Iff.rfl)) | (with_reducible refine sw_pick (fun h => ?_) (fun h => ?_)) <;> (try (exfalso; first | contradiction | omega | exact h Iff.rfl)) | fail)
                    repeat' (first | with_reducible (first | refine go1 ?_ | refine sct ?_ | refine scf ?_ | refine sgr ?_) | with_reducible refine sw_build zT (by kernel_rfl) ?_ | with_reducible refine sw_store_agg ?_ | fail)
                    refine sq_resATT Tryd.results10 (by first | exact .inl rfl | exact .inr rfl) rfl ?_
                    refine ⟨_, .inr ⟨260, line + 1, by rw [hpS, hpan], rfl, rfl⟩, ?_⟩
                    repeat' (first | with_reducible exact Ent.refl _ | with_reducible refine Ent.take_eq ?_ ?_ | rfl | with_reducible refine Ent.oR ?_ | with_reducible refine Ent.trans (oR.drop _ _ _) ?_ | with_reducible refine Ent.trans (Ent.drop _ _) ?_)
                  · cases hnr : numsR ws (cs.map shp) with
                    | false =>
                      have hpan : takeS ⟨some cf, l.map Prod.fst⟩ x = .error 262 := by rw [htk, hfn.1 hnr]; simp [hz]
                      rw [hnr] at hNm
                      unfold wStore at hz
                      repeat' (first | with_reducible refine sw_in (by omega) ?_ | with_reducible (first | refine go1 ?_ | refine sct ?_ | refine scf ?_ | refine sgr ?_) | ((with_reducible refine sw_callf hSh ?_); rintro _ _ ⟨rfl, rfl⟩) | ((with_reducible refine sw_callf hF ?_); rintro _ _ ⟨rfl, rfl⟩) | ((with_reducible refine sw_callf hNm ?_); rintro _ _ ⟨rfl, rfl⟩) | with_reducible refine sw_op (h := runop_lenNV (m := ws.length + 1) (some (b, c, t)) (fun h => by cases h)) ?_ | with_reducible refine sw_indexN 0 ⟨rfl, by omega⟩ ?_ | with_reducible refine sw_loadAt (.bool false) ht0 ?_ | with_reducible refine sw_loadAt (.string (sB z)) hs0 ?_ | with_reducible refine sw_op (h := runop_tail o1 hcap ho1) ?_ | with_reducible refine sw_guard_skip_u ?_ | (with_reducible refine sc_cond (fun h => ?_) (fun h => ?_)) <;> (try (exfalso; first | contradiction | omega | exact h Iff.rfl)) | (with_reducible refine sw_guard_split (fun h => ?_) (fun h => ?_)) <;> (try (exfalso; first | contradiction | omega | exact h Iff.rfl)) | (with_reducible refine sw_pick (fun h => ?_) (fun h => ?_)) <;> (try (exfalso; first | contradiction | omega | exact h Iff.rfl)) | fail)
                      repeat' (first | with_reducible (first | refine go1 ?_ | refine sct ?_ | refine scf ?_ | refine sgr ?_) | with_reducible refine sw_build zT (by kernel_rfl) ?_ | with_reducible refine sw_store_agg ?_ | fail)
                      refine sq_resATT Tryd.results10 (by first | exact .inl rfl | exact .inr rfl) rfl ?_
                      refine ⟨_, .inr ⟨262, line + 1, by rw [hpS, hpan], rfl, rfl⟩, ?_⟩
                      repeat' (first | with_reducible exact Ent.refl _ | with_reducible refine Ent.take_eq ?_ ?_ | rfl | with_reducible refine Ent.oR ?_ | with_reducible refine Ent.trans (oR.drop _ _ _) ?_ | with_reducible refine Ent.trans (Ent.drop _ _) ?_)
                    | true =>
                      obtain ⟨f, hav, hfit⟩ := hfn.2 hnr
                      rw [hnr] at hNm
                      have hno : o = none → l.length = 0 := fun h => (hN.2.1 h).2
                      have hzs := hz
                      unfold wStore at hz
                      repeat' (first | with_reducible refine sw_in (by omega) ?_ | with_reducible (first | refine go1 ?_ | refine sct ?_ | refine scf ?_ | refine sgr ?_) | ((with_reducible refine sw_callf hSh ?_); rintro _ _ ⟨rfl, rfl⟩) | ((with_reducible refine sw_callf hF ?_); rintro _ _ ⟨rfl, rfl⟩) | ((with_reducible refine sw_callf hNm ?_); rintro _ _ ⟨rfl, rfl⟩) | with_reducible refine sw_op (h := runop_lenNV o hno) ?_ | with_reducible refine sw_op (h := runop_lenNV (m := ws.length + 1) (some (b, c, t)) (fun h => by cases h)) ?_ | with_reducible refine sw_indexN 0 ⟨rfl, by omega⟩ ?_ | with_reducible refine sw_loadAt (.bool false) ht0 ?_ | with_reducible refine sw_loadAt (.string (sB z)) hs0 ?_ | with_reducible refine sw_op (h := runop_tail o1 hcap ho1) ?_ | with_reducible refine sw_guard_skip_u ?_ | (with_reducible refine sc_cond (fun h => ?_) (fun h => ?_)) <;> (try (exfalso; first | contradiction | omega | exact h Iff.rfl)) | (with_reducible refine sw_guard_split (fun h => ?_) (fun h => ?_)) <;> (try (exfalso; first | contradiction | omega | exact h Iff.rfl)) | (with_reducible refine sw_pick (fun h => ?_) (fun h => ?_)) <;> (try (exfalso; first | contradiction | omega | exact h Iff.rfl)) | fail)
                      · have hpan : takeS ⟨some cf, l.map Prod.fst⟩ x = .error 3 := by rw [htk, hfit]; simp [hzs]; omega
                        repeat' (first | with_reducible (first | refine go1 ?_ | refine sct ?_ | refine scf ?_ | refine sgr ?_) | with_reducible refine sw_build zT (by kernel_rfl) ?_ | with_reducible refine sw_store_agg ?_ | fail)
                        refine sq_resATT Tryd.results10 (by first | exact .inl rfl | exact .inr rfl) rfl ?_
                        refine ⟨_, .inr ⟨3, line + 1, by rw [hpS, hpan], rfl, rfl⟩, ?_⟩
                        repeat' (first | with_reducible exact Ent.refl _ | with_reducible refine Ent.take_eq ?_ ?_ | rfl | with_reducible refine Ent.oR ?_ | with_reducible refine Ent.trans (oR.drop _ _ _) ?_ | with_reducible refine Ent.trans (Ent.drop _ _) ?_)
                      · obtain ⟨a, ha⟩ : ∃ a, actOf z f = a := ⟨_, rfl⟩
                        have hAct : Spec Tryd.prog 32 [.string (sB z), .slice (some ⟨b, o1, none⟩) ws.length (c - 1)] [b] [pts b (.cells (tokC (⟨z, false⟩ :: ws) ++ t).toArray 63 (0, 0))]
                            fun F v Rs' => ∃ z', NOk 1 (boolC a.k) a.k.length z' ∧ v = .agg (actC a (nV a.k.length z')).toArray ∧ Rs' = oR (nG 4 (boolC a.k)) ((b, pts b (.cells (tokC (⟨z, false⟩ :: ws) ++ t).toArray 63 (0, 0))) :: F) z' :=
                          (qAct_ok z ⟨z, false⟩ ws b o1 (c - 1) t cs hf hBeh hlc hwl hsz).mono (by
                            rintro F v Rs' ⟨a', z', rfl, h⟩
                            rw [act_R hf hzs hlc hka hwn2 hav, ha] at h
                            exact ⟨z', h⟩)
                        have hlt : l.length < 4096 := by omega
                        have htk' : takeS ⟨some cf, l.map Prod.fst⟩ x = .ok ⟨some cf, l.map Prod.fst ++ [a]⟩ := by rw [htk, hfit, ← ha]; simp [hzs, Nat.not_le.2 hlt]
                        rw [htk'] at hp
                        refine sc_hall 7022 ?_
                        rw [← oR_app, List.nil_append]
                        generalize tokC (⟨z, false⟩ :: ws) ++ t = row at *
                        refine sc_drawC (m := 13) ([(b, pts b (.cells row.toArray 63 (0, 0)))]) CalmC.out (by kernel_rfl) rfl (fun hcalm => ?_)
                        all_goals (first | refine sg_take 0 hcalm rfl (by kernel_rfl) (by kernel_rfl) (by kernel_rfl) ?_)
                        all_goals (first | refine sg_take 2 hcalm rfl (by kernel_rfl) (by kernel_rfl) (by kernel_rfl) ?_)
                        all_goals (first | refine sg_take 3 hcalm rfl (by kernel_rfl) (by kernel_rfl) (by kernel_rfl) (h := runop_indexN 0 ⟨rfl, by omega⟩) ?_ | refine sg_take 3 hcalm rfl (by kernel_rfl) (by kernel_rfl) (by kernel_rfl) ?_)
                        all_goals (first | refine sg_take 4 hcalm rfl (by kernel_rfl) (by kernel_rfl) (by kernel_rfl) ?_)
                        all_goals (first | refine sg_take 5 hcalm rfl (by kernel_rfl) (by kernel_rfl) (by kernel_rfl) (h := runop_loadAt (.string (sB z)) hs0) ?_ | refine sg_take 5 hcalm rfl (by kernel_rfl) (by kernel_rfl) (by kernel_rfl) ?_)
                        all_goals (first | refine sg_take 6 hcalm rfl (by kernel_rfl) (by kernel_rfl) (by kernel_rfl) ?_)
                        all_goals (first | refine sg_take 7 hcalm rfl (by kernel_rfl) (by kernel_rfl) (by kernel_rfl) (h := runop_tail o1 hcap ho1) ?_ | refine sg_take 7 hcalm rfl (by kernel_rfl) (by kernel_rfl) (by kernel_rfl) ?_)
                        refine sg_two 1 8 rfl rfl (by kernel_rfl) rfl ?g1a ?g1b
                        case' g1a =>
                          all_goals (repeat' (first | with_reducible (first | refine go1 ?_ | refine sct ?_ | refine scf ?_ | refine sgr ?_) | ((with_reducible refine sw_callf hAct ?_); rintro _ _ ⟨z', hz', rfl, rfl⟩) | with_reducible refine sw_buildSliceN (AK.cs (a, z')) ⟨by omega, by omega, by omega⟩ (by kernel_rfl) fun b8 => ?_ | with_reducible refine sw_appendNV (sz := 9) (b7 := b8) (akC l) (AK.cs (a, z')) l.length o hN (ak_one (a, z')) (by kernel_rfl) (by omega) ⟨rfl, by omega, by omega⟩ fun o' ho' hN' => ?_ | with_reducible refine sw_store ?_ | with_reducible refine sg_back ?_ | fail))
                          all_goals (refine sg_one 8 rfl (by kernel_rfl) rfl ?_)
                          all_goals (repeat' (first | with_reducible (first | refine go1 ?_ | refine sct ?_ | refine scf ?_ | refine sgr ?_) | ((with_reducible refine sw_callf hAct ?_); rintro _ _ ⟨z', hz', rfl, rfl⟩) | with_reducible refine sw_buildSliceN (AK.cs (a, z')) ⟨by omega, by omega, by omega⟩ (by kernel_rfl) fun b8 => ?_ | with_reducible refine sw_appendNV (sz := 9) (b7 := b8) (akC l) (AK.cs (a, z')) l.length o hN (ak_one (a, z')) (by kernel_rfl) (by omega) ⟨rfl, by omega, by omega⟩ fun o' ho' hN' => ?_ | with_reducible refine sw_store ?_ | with_reducible refine sg_back ?_ | fail))
                          all_goals (refine sg_one 9 rfl (by kernel_rfl) rfl ?_)
                          all_goals (repeat' (first | with_reducible (first | refine go1 ?_ | refine sct ?_ | refine scf ?_ | refine sgr ?_) | ((with_reducible refine sw_callf hAct ?_); rintro _ _ ⟨z', hz', rfl, rfl⟩) | with_reducible refine sw_buildSliceN (AK.cs (a, z')) ⟨by omega, by omega, by omega⟩ (by kernel_rfl) fun b8 => ?_ | with_reducible refine sw_appendNV (sz := 9) (b7 := b8) (akC l) (AK.cs (a, z')) l.length o hN (ak_one (a, z')) (by kernel_rfl) (by omega) ⟨rfl, by omega, by omega⟩ fun o' ho' hN' => ?_ | with_reducible refine sw_store ?_ | with_reducible refine sg_back ?_ | fail))
                          all_goals (refine sg_one 10 rfl (by kernel_rfl) rfl ?_)
                          all_goals (repeat' (first | with_reducible (first | refine go1 ?_ | refine sct ?_ | refine scf ?_ | refine sgr ?_) | ((with_reducible refine sw_callf hAct ?_); rintro _ _ ⟨z', hz', rfl, rfl⟩) | with_reducible refine sw_buildSliceN (AK.cs (a, z')) ⟨by omega, by omega, by omega⟩ (by kernel_rfl) fun b8 => ?_ | with_reducible refine sw_appendNV (sz := 9) (b7 := b8) (akC l) (AK.cs (a, z')) l.length o hN (ak_one (a, z')) (by kernel_rfl) (by omega) ⟨rfl, by omega, by omega⟩ fun o' ho' hN' => ?_ | with_reducible refine sw_store ?_ | with_reducible refine sg_back ?_ | fail))
                          all_goals (first | refine sg_take 11 hcalm rfl (by kernel_rfl) (by kernel_rfl) (by kernel_rfl) ?_)
                          all_goals (refine sg_one 12 rfl (by kernel_rfl) rfl ?_)
                          all_goals (repeat' (first | with_reducible (first | refine go1 ?_ | refine sct ?_ | refine scf ?_ | refine sgr ?_) | ((with_reducible refine sw_callf hAct ?_); rintro _ _ ⟨z', hz', rfl, rfl⟩) | with_reducible refine sw_buildSliceN (AK.cs (a, z')) ⟨by omega, by omega, by omega⟩ (by kernel_rfl) fun b8 => ?_ | with_reducible refine sw_appendNV (sz := 9) (b7 := b8) (akC l) (AK.cs (a, z')) l.length o hN (ak_one (a, z')) (by kernel_rfl) (by omega) ⟨rfl, by omega, by omega⟩ fun o' ho' hN' => ?_ | with_reducible refine sw_store ?_ | with_reducible refine sg_back ?_ | fail))
                          all_goals (refine sg_done (by kernel_rfl) rfl ?_)
                        case' g1b =>
                          all_goals (repeat' (first | with_reducible (first | refine go1 ?_ | refine sct ?_ | refine scf ?_ | refine sgr ?_) | ((with_reducible refine sw_callf hAct ?_); rintro _ _ ⟨z', hz', rfl, rfl⟩) | with_reducible refine sw_buildSliceN (AK.cs (a, z')) ⟨by omega, by omega, by omega⟩ (by kernel_rfl) fun b8 => ?_ | with_reducible refine sw_appendNV (sz := 9) (b7 := b8) (akC l) (AK.cs (a, z')) l.length o hN (ak_one (a, z')) (by kernel_rfl) (by omega) ⟨rfl, by omega, by omega⟩ fun o' ho' hN' => ?_ | with_reducible refine sw_store ?_ | with_reducible refine sg_back ?_ | fail))
                          refine sg_two 1 9 rfl rfl (by kernel_rfl) rfl ?g2a ?g2b
                          case' g2a =>
                            all_goals (repeat' (first | with_reducible (first | refine go1 ?_ | refine sct ?_ | refine scf ?_ | refine sgr ?_) | ((with_reducible refine sw_callf hAct ?_); rintro _ _ ⟨z', hz', rfl, rfl⟩) | with_reducible refine sw_buildSliceN (AK.cs (a, z')) ⟨by omega, by omega, by omega⟩ (by kernel_rfl) fun b8 => ?_ | with_reducible refine sw_appendNV (sz := 9) (b7 := b8) (akC l) (AK.cs (a, z')) l.length o hN (ak_one (a, z')) (by kernel_rfl) (by omega) ⟨rfl, by omega, by omega⟩ fun o' ho' hN' => ?_ | with_reducible refine sw_store ?_ | with_reducible refine sg_back ?_ | fail))
                            all_goals (refine sg_one 9 rfl (by kernel_rfl) rfl ?_)
                            all_goals (repeat' (first | with_reducible (first | refine go1 ?_ | refine sct ?_ | refine scf ?_ | refine sgr ?_) | ((with_reducible refine sw_callf hAct ?_); rintro _ _ ⟨z', hz', rfl, rfl⟩) | with_reducible refine sw_buildSliceN (AK.cs (a, z')) ⟨by omega, by omega, by omega⟩ (by kernel_rfl) fun b8 => ?_ | with_reducible refine sw_appendNV (sz := 9) (b7 := b8) (akC l) (AK.cs (a, z')) l.length o hN (ak_one (a, z')) (by kernel_rfl) (by omega) ⟨rfl, by omega, by omega⟩ fun o' ho' hN' => ?_ | with_reducible refine sw_store ?_ | with_reducible refine sg_back ?_ | fail))
                            all_goals (refine sg_one 10 rfl (by kernel_rfl) rfl ?_)
                            all_goals (repeat' (first | with_reducible (first | refine go1 ?_ | refine sct ?_ | refine scf ?_ | refine sgr ?_) | ((with_reducible refine sw_callf hAct ?_); rintro _ _ ⟨z', hz', rfl, rfl⟩) | with_reducible refine sw_buildSliceN (AK.cs (a, z')) ⟨by omega, by omega, by omega⟩ (by kernel_rfl) fun b8 => ?_ | with_reducible refine sw_appendNV (sz := 9) (b7 := b8) (akC l) (AK.cs (a, z')) l.length o hN (ak_one (a, z')) (by kernel_rfl) (by omega) ⟨rfl, by omega, by omega⟩ fun o' ho' hN' => ?_ | with_reducible refine sw_store ?_ | with_reducible refine sg_back ?_ | fail))
                            all_goals (first | refine sg_take 11 hcalm rfl (by kernel_rfl) (by kernel_rfl) (by kernel_rfl) ?_)
                            all_goals (refine sg_one 12 rfl (by kernel_rfl) rfl ?_)
                            all_goals (repeat' (first | with_reducible (first | refine go1 ?_ | refine sct ?_ | refine scf ?_ | refine sgr ?_) | ((with_reducible refine sw_callf hAct ?_); rintro _ _ ⟨z', hz', rfl, rfl⟩) | with_reducible refine sw_buildSliceN (AK.cs (a, z')) ⟨by omega, by omega, by omega⟩ (by kernel_rfl) fun b8 => ?_ | with_reducible refine sw_appendNV (sz := 9) (b7 := b8) (akC l) (AK.cs (a, z')) l.length o hN (ak_one (a, z')) (by kernel_rfl) (by omega) ⟨rfl, by omega, by omega⟩ fun o' ho' hN' => ?_ | with_reducible refine sw_store ?_ | with_reducible refine sg_back ?_ | fail))
                            all_goals (refine sg_done (by kernel_rfl) rfl ?_)
                          case' g2b =>
                            all_goals (repeat' (first | with_reducible (first | refine go1 ?_ | refine sct ?_ | refine scf ?_ | refine sgr ?_) | ((with_reducible refine sw_callf hAct ?_); rintro _ _ ⟨z', hz', rfl, rfl⟩) | with_reducible refine sw_buildSliceN (AK.cs (a, z')) ⟨by omega, by omega, by omega⟩ (by kernel_rfl) fun b8 => ?_ | with_reducible refine sw_appendNV (sz := 9) (b7 := b8) (akC l) (AK.cs (a, z')) l.length o hN (ak_one (a, z')) (by kernel_rfl) (by omega) ⟨rfl, by omega, by omega⟩ fun o' ho' hN' => ?_ | with_reducible refine sw_store ?_ | with_reducible refine sg_back ?_ | fail))
                            all_goals (refine sg_one 1 rfl (by kernel_rfl) rfl ?_)
                            all_goals (repeat' (first | with_reducible (first | refine go1 ?_ | refine sct ?_ | refine scf ?_ | refine sgr ?_) | ((with_reducible refine sw_callf hAct ?_); rintro _ _ ⟨z', hz', rfl, rfl⟩) | with_reducible refine sw_buildSliceN (AK.cs (a, z')) ⟨by omega, by omega, by omega⟩ (by kernel_rfl) fun b8 => ?_ | with_reducible refine sw_appendNV (sz := 9) (b7 := b8) (akC l) (AK.cs (a, z')) l.length o hN (ak_one (a, z')) (by kernel_rfl) (by omega) ⟨rfl, by omega, by omega⟩ fun o' ho' hN' => ?_ | with_reducible refine sw_store ?_ | with_reducible refine sg_back ?_ | fail))
                            all_goals (refine sg_one 10 rfl (by kernel_rfl) rfl ?_)
                            all_goals (repeat' (first | with_reducible (first | refine go1 ?_ | refine sct ?_ | refine scf ?_ | refine sgr ?_) | ((with_reducible refine sw_callf hAct ?_); rintro _ _ ⟨z', hz', rfl, rfl⟩) | with_reducible refine sw_buildSliceN (AK.cs (a, z')) ⟨by omega, by omega, by omega⟩ (by kernel_rfl) fun b8 => ?_ | with_reducible refine sw_appendNV (sz := 9) (b7 := b8) (akC l) (AK.cs (a, z')) l.length o hN (ak_one (a, z')) (by kernel_rfl) (by omega) ⟨rfl, by omega, by omega⟩ fun o' ho' hN' => ?_ | with_reducible refine sw_store ?_ | with_reducible refine sg_back ?_ | fail))
                            all_goals (first | refine sg_take 11 hcalm rfl (by kernel_rfl) (by kernel_rfl) (by kernel_rfl) ?_)
                            all_goals (refine sg_one 12 rfl (by kernel_rfl) rfl ?_)
                            all_goals (repeat' (first | with_reducible (first | refine go1 ?_ | refine sct ?_ | refine scf ?_ | refine sgr ?_) | ((with_reducible refine sw_callf hAct ?_); rintro _ _ ⟨z', hz', rfl, rfl⟩) | with_reducible refine sw_buildSliceN (AK.cs (a, z')) ⟨by omega, by omega, by omega⟩ (by kernel_rfl) fun b8 => ?_ | with_reducible refine sw_appendNV (sz := 9) (b7 := b8) (akC l) (AK.cs (a, z')) l.length o hN (ak_one (a, z')) (by kernel_rfl) (by omega) ⟨rfl, by omega, by omega⟩ fun o' ho' hN' => ?_ | with_reducible refine sw_store ?_ | with_reducible refine sg_back ?_ | fail))
                            all_goals (refine sg_done (by kernel_rfl) rfl ?_)
                        all_goals (repeat' (first | with_reducible refine sw_in (by omega) ?_ | with_reducible (first | refine go1 ?_ | refine sct ?_ | refine scf ?_ | refine sgr ?_) | fail))
                        all_goals refine sq_round ⟨(k + 1, line + 1, some cf, l ++ [(a, z')], o'), by dsimp only; omega, by dsimp only; omega, by dsimp only; omega, by rw [akC_app, akC_one, List.length_append]; exact hN', by simp only [List.length_append, List.length_cons, List.length_nil]; omega, hA.app fun h => List.length_eq_zero_iff.1 (hz'.2.1 h).2, by dsimp only; rw [List.map_append]; exact hp⟩ (by show s.length + 1 - (k + 1) < s.length + 1 - i; omega) ?_ ?_
                        all_goals (first | ((repeat' (first | exact says_nil | refine says_cons rfl ?_ | refine says_cons (by simp) ?_)); done) | skip)
                        all_goals show Ent _ ((b5, pts b5 (.cells (scrC cf (nV (l ++ [(a, z')]).length o')).toArray 26 (0, 0))) :: (7021, KP (l ++ [(a, z')])) :: (7022, hall (oR (nG 46 (akC (l ++ [(a, z')]))) [] o')) :: (b2, pts b2 (.cells zT.toArray 26 (0, 0))) :: F)
                        all_goals rw [akC_app, akC_one, List.length_append]
                        all_goals refine Ent.trans (B := (b5, pts b5 (.cells (scrC cf (nV (l.length + 1) o')).toArray 26 (0, 0))) :: (7021, KP l) :: oR (nG 4 (boolC a.k)) (oR (nG 46 (akC l ++ AK.cs (a, z'))) ((b2, pts b2 (.cells zT.toArray 26 (0, 0))) :: F) o') z') ?_ (Ent.cons _ ((kp_addK 7021 l a z' _).trans (Ent.cons _ (oR_close _ _ _ _))))
                        all_goals (repeat' (first | with_reducible exact Ent.refl _ | with_reducible refine Ent.take_eq ?_ ?_ | rfl | with_reducible refine Ent.oR ?_ | with_reducible refine Ent.trans (oR.drop _ _ _) ?_ | with_reducible refine Ent.trans (Ent.drop _ _) ?_))
    · have hpan := take_none (r := ⟨co, l.map Prod.fst⟩) hw
      repeat' (first | with_reducible (first | refine go1 ?_ | refine sct ?_ | refine scf ?_ | refine sgr ?_) | with_reducible refine sw_build zT (by kernel_rfl) ?_ | with_reducible refine sw_store_agg ?_ | fail)
      refine sq_resATT Tryd.results10 (by first | exact .inl rfl | exact .inr rfl) rfl ?_
      refine ⟨_, .inr ⟨261, line + 1, by rw [hpS, hpan], rfl, rfl⟩, ?_⟩
      repeat' (first | with_reducible exact Ent.refl _ | with_reducible refine Ent.take_eq ?_ ?_ | rfl | with_reducible refine Ent.oR ?_ | with_reducible refine Ent.trans (oR.drop _ _ _) ?_ | with_reducible refine Ent.trans (Ent.drop _ _) ?_)
end Go.Gsl

namespace Go.Gsl
set_option linter.unusedVariables false
open Go.Proofs

section
variable (w : World)
set_option maxRecDepth 20000 in
theorem eqStrF {d : Nat} {xs ys : Array Value} {f : Field} {fs : List Field} {a b : Bs} {r' : Bool} (hnm : f.name ≠ "_") [hn : NonAgg Tryd.prog f.type] (hu : Tryd.prog.underlying f.type = some .string) (hx : xs[f.offset]? = some (.string (sB a))) (hy : ys[f.offset]? = some (.string (sB b)))
    (hr : (Op.eqFields (d + 1) xs ys fs).run Tryd.prog w = .ok r' w) : (Op.eqFields (d + 1) xs ys (f :: fs)).run Tryd.prog w = .ok (decide (a = b) && r') w := by
  have h1 : decide (a = b) = ((sB a).toList == (sB b).toList) := by rw [sB_toList, sB_toList]; by_cases h : a = b <;> simp [h]
  rw [h1]
  exact eqF_step w hnm (part_one w hx) (part_one w hy) (run_equalIn_string w d _ _ _ hu) hr
set_option maxRecDepth 20000 in
theorem eqRng (d : Nat) (a b a' b' : Bs) : (Op.equalIn (d + 2) 42 (.agg #[.string (sB a), .string (sB b)]) (.agg #[.string (sB a'), .string (sB b')])).run Tryd.prog w = .ok (decide (a = a') && (decide (b = b') && true)) w := by
  have hf := fieldsOf_und Tryd.underlying42
  rw [run_equalIn_struct w (d + 1) _ _ _ (by rw [hf]; exact Tryd.underlying42) (by kernel_rfl), hf]
  refine eqStrF w (by decide) Tryd.underlying9 rfl rfl ?_
  refine eqStrF w (by decide) Tryd.underlying9 rfl rfl ?_
  exact eqF_nil w _ _ _
set_option maxRecDepth 20000 in
theorem eqCall (d : Nat) (k l k' l' : Int) (a b p q a' b' p' q' : Bs) : (Op.equalIn (d + 3) 44 (.agg #[.int .i64 k, .int .i64 l, .string (sB a), .string (sB b), .string (sB p), .string (sB q)]) (.agg #[.int .i64 k', .int .i64 l', .string (sB a'), .string (sB b'), .string (sB p'), .string (sB q')])).run Tryd.prog w =
    .ok (k == k' && (l == l' && (decide (a = a') && (decide (b = b') && ((decide (p = p') && (decide (q = q') && true)) && true))))) w := by
  have hf := fieldsOf_und Tryd.underlying44
  rw [run_equalIn_struct w (d + 2) _ _ _ (by rw [hf]; exact Tryd.underlying44) (by kernel_rfl), hf]
  refine eqF_int w (by decide) Tryd.underlying3 rfl rfl ?_
  refine eqF_int w (by decide) Tryd.underlying3 rfl rfl ?_
  refine eqStrF w (by decide) Tryd.underlying9 rfl rfl ?_
  refine eqStrF w (by decide) Tryd.underlying9 rfl rfl ?_
  refine eqF_step w (by decide) (part_agg' w (ys := #[.string (sB p), .string (sB q)]) (by kernel_rfl)) (part_agg' w (ys := #[.string (sB p'), .string (sB q')]) (by kernel_rfl)) (eqRng w d p q p' q') ?_
  exact eqF_nil w _ _ _
set_option maxRecDepth 20000 in
theorem eqConfig (d : Nat) (a b c e f g h a' b' c' e' f' g' h' : Int) : (Op.equalIn (d + 2) 23 (.agg #[.int .i64 a, .int .i64 b, .int .i64 c, .int .i64 e, .int .i64 f, .int .i64 g, .int .i64 h]) (.agg #[.int .i64 a', .int .i64 b', .int .i64 c', .int .i64 e', .int .i64 f', .int .i64 g', .int .i64 h'])).run Tryd.prog w =
    .ok (a == a' && (b == b' && (c == c' && (e == e' && (f == f' && (g == g' && (h == h' && true))))))) w := by
  have hf := fieldsOf_und Tryd.underlying23
  rw [run_equalIn_struct w (d + 1) _ _ _ (by rw [hf]; exact Tryd.underlying23) (by kernel_rfl), hf]
  refine eqF_int w (by decide) Tryd.underlying3 rfl rfl ?_
  refine eqF_int w (by decide) Tryd.underlying3 rfl rfl ?_
  refine eqF_int w (by decide) Tryd.underlying3 rfl rfl ?_
  refine eqF_int w (by decide) Tryd.underlying3 rfl rfl ?_
  refine eqF_int w (by decide) Tryd.underlying3 rfl rfl ?_
  refine eqF_int w (by decide) Tryd.underlying3 rfl rfl ?_
  refine eqF_int w (by decide) Tryd.underlying3 rfl rfl ?_
  exact eqF_nil w _ _ _
end
instance EqAgg.call (k l k' l' : Int) (a b p q a' b' p' q' : Bs) : EqAgg Tryd.prog 44 [.int .i64 k, .int .i64 l, .string ⟨a.toArray⟩, .string ⟨b.toArray⟩, .string ⟨p.toArray⟩, .string ⟨q.toArray⟩] [.int .i64 k', .int .i64 l', .string ⟨a'.toArray⟩, .string ⟨b'.toArray⟩, .string ⟨p'.toArray⟩, .string ⟨q'.toArray⟩]
    (decide (Call.mk k l a b p q = Call.mk k' l' a' b' p' q')) :=
  ⟨fun w => by
    have h : decide (Call.mk k l a b p q = Call.mk k' l' a' b' p' q') = (k == k' && (l == l' && (decide (a = a') && (decide (b = b') && ((decide (p = p') && (decide (q = q') && true)) && true))))) := by
      simp only [int_beq, Call.mk.injEq, Bool.and_true, Bool.decide_and]
    rw [h]
    exact eqCall w 9997 k l k' l' a b p q a' b' p' q', by kernel_rfl⟩
instance EqAgg.config (a b c e f g h a' b' c' e' f' g' h' : Int) : EqAgg Tryd.prog 23 [.int .i64 a, .int .i64 b, .int .i64 c, .int .i64 e, .int .i64 f, .int .i64 g, .int .i64 h] [.int .i64 a', .int .i64 b', .int .i64 c', .int .i64 e', .int .i64 f', .int .i64 g', .int .i64 h']
    (decide ([a, b, c, e, f, g, h] = [a', b', c', e', f', g', h'])) :=
  ⟨fun w => by
    have hh : decide ([a, b, c, e, f, g, h] = [a', b', c', e', f', g', h']) = (a == a' && (b == b' && (c == c' && (e == e' && (f == f' && (g == g' && (h == h' && true))))))) := by
      simp only [int_beq, List.cons.injEq, Bool.and_true, Bool.decide_and, and_true]
    rw [hh]
    exact eqConfig w 9998 a b c e f g h a' b' c' e' f' g' h', by kernel_rfl⟩

/-! ### rows that are read -/
def RdK (r : HProp) (kv : Value) (ks : List Bool) : Prop := ∃ a c, kv = .slice a ks.length c ∧ (0 < ks.length → ∃ b o, a = some ⟨b, o, none⟩) ∧ Reads r a (boolC ks)
abbrev AV := Act × Value
def avC (l : List AV) : List Value := l.flatMap fun p => actC p.1 p.2
theorem avC_at : ∀ (l : List AV) (i : Nat) (p : AV), l[i]? = some p → ((avC l).drop (i * 9)).take 9 = actC p.1 p.2
  | [], i, p, h => by simp at h
  | x :: l, 0, p, h => by
    simp only [List.getElem?_cons_zero, Option.some.injEq] at h
    subst h; rfl
  | x :: l, i + 1, p, h => by
    have := avC_at l i p (by simpa using h)
    have e1 : avC (x :: l) = actC x.1 x.2 ++ avC l := by unfold avC; rw [List.flatMap_cons]
    rw [e1, List.drop_append, show (actC x.1 x.2).length = 9 from rfl, show (i + 1) * 9 - 9 = i * 9 by omega, List.drop_eq_nil_of_le (by show 9 ≤ _; omega), List.nil_append]
    exact this
/-- a row of acts, with what they keep -/
def RdAs (r : HProp) (v : Value) (l : List Act) : Prop := ∃ a c av, v = .slice a l.length c ∧ List.map Prod.fst av = l ∧ (0 < l.length → ∃ b o, a = some ⟨b, o, none⟩) ∧ Reads r a (avC av) ∧ (∀ p ∈ av, RdK r p.2 p.1.k) ∧ ∀ p ∈ av, p.1.k.length ≤ 1073741824

theorem boolC_at {ks : List Bool} {i : Nat} {y : Bool} (h : ks[i]? = some y) : (boolC ks)[i]? = some (.bool y) := by unfold boolC; rw [List.getElem?_map, h]; rfl
theorem bools_ne {a b : List Bool} {i : Nat} (h1 : i < a.length) (h2 : i < b.length) (h : a.getD i false ≠ b.getD i false) : a ≠ b := by rintro rfl; exact h rfl
theorem getD_some {α : Type} {l : List α} {i : Nat} (d : α) (h : i < l.length) : l[i]? = some (l.getD i d) := by rw [List.getD_eq_getElem?_getD, List.getElem?_eq_getElem h]; rfl
/-- the first ones are the same -/
theorem take_eq_step {α : Type} {a b : List α} {i : Nat} (d : α) (h1 : i < a.length) (h2 : i < b.length) (h : a.take i = b.take i) (he : a.getD i d = b.getD i d) : a.take (i + 1) = b.take (i + 1) := by
  rw [List.take_add_one, List.take_add_one, getD_some d h1, getD_some d h2, h, he]

set_option maxHeartbeats 4000000 in
theorem qSameAct_ok (K : Nat) (r : HProp) (x y : Act) (vx vy : Value) (hx : RdK r vx x.k) (hy : RdK r vy y.k) (hl : x.k.length ≤ 1073741824) : Spec Tryd.prog 20 [.agg (actC x vx).toArray, .agg (actC y vy).toArray] [K] [r]
    fun F v Rs' => v = .bool (decide (x = y)) ∧ Rs' = (K, r) :: F := by
  obtain ⟨d, n, ⟨kind, level, key, value, low, high⟩, k⟩ := x
  obtain ⟨d', n', ⟨kind', level', key', value', low', high'⟩, k'⟩ := y
  obtain ⟨a, c, rfl, ha, hra⟩ := hx
  obtain ⟨a', c', rfl, ha', hra'⟩ := hy
  simp only at ha hra ha' hra' hl
  show Spec Tryd.prog 20 [.agg ([.int .i64 d, .int .i64 n, .int .i64 kind, .int .i64 level, .string (sB key), .string (sB value), .string (sB low), .string (sB high), .slice a k.length c] : List Value).toArray,
    .agg ([.int .i64 d', .int .i64 n', .int .i64 kind', .int .i64 level', .string (sB key'), .string (sB value'), .string (sB low'), .string (sB high'), .slice a' k'.length c'] : List Value).toArray] [K] [r] _
  have hcl : ([.int .i64 kind, .int .i64 level, .string (sB key), .string (sB value), .string (sB low), .string (sB high)] : List Value).length = 6 := rfl
  have hcl' : ([.int .i64 kind', .int .i64 level', .string (sB key'), .string (sB value'), .string (sB low'), .string (sB high')] : List Value).length = 6 := rfl
  have rd0 : ∀ (b : Nat) (cs : List Value), Reads (pts b (.cells cs.toArray 46 (0, 0))) (some ⟨b, 0, none⟩) cs := fun b cs => reads_pts fun j v hj => by rw [Nat.zero_add]; exact hj
  refine spec_of Tryd.func20 rfl Tryd.ntmps20 rfl ?_
  intro w0 F
  repeat' (first | with_reducible (first | refine go1 ?_ | refine sct ?_ | refine scf ?_ | refine sgr ?_) | fail)
  refine sw_box fun b2 => ?_
  repeat' (first | with_reducible (first | refine go1 ?_ | refine sct ?_ | refine scf ?_ | refine sgr ?_) | fail)
  refine sw_box fun b3 => ?_
  repeat' (first | with_reducible (first | refine go1 ?_ | refine sct ?_ | refine scf ?_ | refine sgr ?_) | with_reducible refine sw_load_aggR b2 2 [.int .i64 kind, .int .i64 level, .string (sB key), .string (sB value), .string (sB low), .string (sB high)] (rd0 b2 _) hcl rfl rfl ?_ | with_reducible refine sw_load_aggR b3 2 [.int .i64 kind', .int .i64 level', .string (sB key'), .string (sB value'), .string (sB low'), .string (sB high')] (rd0 b3 _) hcl' rfl rfl ?_ | with_reducible refine sw_guard_skip_u ?_ | (with_reducible refine sc_cond (fun h => ?_) (fun h => ?_)) <;> (try (exfalso; first | contradiction | omega | exact h Iff.rfl)) | (with_reducible refine sw_guard_split (fun h => ?_) (fun h => ?_)) <;> (try (exfalso; first | contradiction | omega | exact h Iff.rfl)) | (with_reducible refine sw_pick (fun h => ?_) (fun h => ?_)) <;> (try (exfalso; first | contradiction | omega | exact h Iff.rfl)) | fail)
  · refine sq_ret1 Tryd.results20 ?_
    refine ⟨_, ⟨by rw [decide_eq_false]; simp only [Act.mk.injEq]; rintro ⟨g, _⟩; exact h g, rfl⟩, ?_⟩
    repeat' (first | with_reducible exact Ent.refl _ | with_reducible refine Ent.take_eq ?_ ?_ | rfl | with_reducible refine Ent.oR ?_ | with_reducible refine Ent.trans (oR.drop _ _ _) ?_ | with_reducible refine Ent.trans (Ent.drop _ _) ?_)
  · refine sq_ret1 Tryd.results20 ?_
    refine ⟨_, ⟨by rw [decide_eq_false]; simp only [Act.mk.injEq]; rintro ⟨_, g, _⟩; exact h g, rfl⟩, ?_⟩
    repeat' (first | with_reducible exact Ent.refl _ | with_reducible refine Ent.take_eq ?_ ?_ | rfl | with_reducible refine Ent.oR ?_ | with_reducible refine Ent.trans (oR.drop _ _ _) ?_ | with_reducible refine Ent.trans (Ent.drop _ _) ?_)
  · refine sq_ret1 Tryd.results20 ?_
    refine ⟨_, ⟨by rw [decide_eq_false]; simp only [Act.mk.injEq]; rintro ⟨_, _, g, _⟩; exact h g, rfl⟩, ?_⟩
    repeat' (first | with_reducible exact Ent.refl _ | with_reducible refine Ent.take_eq ?_ ?_ | rfl | with_reducible refine Ent.oR ?_ | with_reducible refine Ent.trans (oR.drop _ _ _) ?_ | with_reducible refine Ent.trans (Ent.drop _ _) ?_)
  · refine sq_ret1 Tryd.results20 ?_
    refine ⟨_, ⟨by rw [decide_eq_false]; simp only [Act.mk.injEq]; rintro ⟨_, _, _, g⟩; exact h (by rw [g]), rfl⟩, ?_⟩
    repeat' (first | with_reducible exact Ent.refl _ | with_reducible refine Ent.take_eq ?_ ?_ | rfl | with_reducible refine Ent.oR ?_ | with_reducible refine Ent.trans (oR.drop _ _ _) ?_ | with_reducible refine Ent.trans (Ent.drop _ _) ?_)
  rename_i g1 g2 g3
  have hlk : k.length = k'.length := by omega
  have hgo : decide (Act.mk d n ⟨kind, level, key, value, low, high⟩ k = Act.mk d' n' ⟨kind', level', key', value', low', high'⟩ k') = decide (k = k') := by
    have g3' := Classical.not_not.1 g3
    rw [Classical.not_not.1 g1, Classical.not_not.1 g2, g3']; simp
  rw [hgo]
  clear g1 g2 g3 hgo
  refine sc_keep [0, 1, 2, 3, 4, 5] fun e1 => ?_
  simp only [List.cons_append, List.nil_append]
  refine sc_loop (α := { i : Nat // i ≤ k.length ∧ k.take i = k'.take i }) (fun i => [(2, .pointer (some ⟨b2, 0, none⟩)), (3, .pointer (some ⟨b3, 0, none⟩)), (4, .bool false), (5, .int .i64 (i.1 : Int))])
    (fun _ => (b3, pts b3 (.cells ([.int .i64 d', .int .i64 n', .int .i64 kind', .int .i64 level', .string (sB key'), .string (sB value'), .string (sB low'), .string (sB high'), .slice a' k'.length c'] : List Value).toArray 46 (0, 0))) ::
      (b2, pts b2 (.cells ([.int .i64 d, .int .i64 n, .int .i64 kind, .int .i64 level, .string (sB key), .string (sB value), .string (sB low), .string (sB high), .slice a k.length c] : List Value).toArray 46 (0, 0))) :: (K, r) :: F) (fun i => k.length - i.1) ⟨0, Nat.zero_le _, rfl⟩ ?_ ?_ ?_
  · repeat' (first | exact says_nil | refine says_cons rfl ?_ | refine says_cons (by simp) ?_)
  · repeat' (first | with_reducible exact Ent.refl _ | with_reducible refine Ent.take_eq ?_ ?_ | rfl | with_reducible refine Ent.oR ?_ | with_reducible refine Ent.trans (oR.drop _ _ _) ?_ | with_reducible refine Ent.trans (Ent.drop _ _) ?_)
  rintro ⟨i, hi, hik⟩ e
  simp only [List.cons_append, List.nil_append]
  by_cases hil : i < k.length
  · obtain ⟨b, o, rfl⟩ := ha (by omega)
    obtain ⟨b', o', rfl⟩ := ha' (by omega)
    have h1 := boolC_at (getD_some false hil)
    have h2 := boolC_at (getD_some false (show i < k'.length by omega))
    have hbn := bools_ne hil (show i < k'.length by omega)
    have hst := take_eq_step false hil (show i < k'.length by omega) hik
    generalize k.getD i false = u at *
    generalize k'.getD i false = u' at *
    repeat' (first | with_reducible refine sw_in (by omega) ?_ | with_reducible (first | refine go1 ?_ | refine sct ?_ | refine scf ?_ | refine sgr ?_) | (with_reducible refine sc_cond (fun h => ?_) (fun h => ?_)) <;> (try (exfalso; first | contradiction | omega | exact h Iff.rfl)) | fail)
    refine sc_lin ([(b2, pts b2 (.cells ([.int .i64 d, .int .i64 n, .int .i64 kind, .int .i64 level, .string (sB key), .string (sB value), .string (sB low), .string (sB high), .slice (some ⟨b, o, none⟩) k.length c] : List Value).toArray 46 (0, 0))), (b3, pts b3 (.cells ([.int .i64 d', .int .i64 n', .int .i64 kind', .int .i64 level', .string (sB key'), .string (sB value'), .string (sB low'), .string (sB high'), .slice (some ⟨b', o', none⟩) k'.length c'] : List Value).toArray 46 (0, 0))), (K, r)]) (llp 0 (llp 1 (llp 2 (llp 3 (llp 4 (llp 5 (llp 6 (llp 7 (llp 8 (llp 9 (llp 10 ll0))))))))))) (by kernel_rfl) rfl (by kernel_rfl) ?_
    all_goals (iterate 3 refine go1l ?_)
    all_goals refine sl_take (h := runop_indexN i ⟨rfl, by omega⟩) ?_
    all_goals refine sl_take (h := runop_load_rdS K i (.bool u) hra h1 (by omega)) ?_
    all_goals (iterate 3 refine go1l ?_)
    all_goals refine sl_take (h := runop_indexN i ⟨rfl, by omega⟩) ?_
    all_goals refine sl_take (h := runop_load_rdS K i (.bool u') hra' h2 (by omega)) ?_
    all_goals refine go1l ?_
    all_goals refine sl_done ?_
    repeat' (first | with_reducible refine sw_in (by omega) ?_ | with_reducible (first | refine go1 ?_ | refine sct ?_ | refine scf ?_ | refine sgr ?_) | (with_reducible refine sc_cond (fun h => ?_) (fun h => ?_)) <;> (try (exfalso; first | contradiction | omega | exact h Iff.rfl)) | fail)
    · refine sq_ret1 Tryd.results20 ?_
      refine ⟨_, ⟨by rw [decide_eq_false (hbn (by simpa using h))], rfl⟩, ?_⟩
      repeat' (first | with_reducible exact Ent.refl _ | with_reducible refine Ent.take_eq ?_ ?_ | rfl | with_reducible refine Ent.oR ?_ | with_reducible refine Ent.trans (oR.drop _ _ _) ?_ | with_reducible refine Ent.trans (Ent.drop _ _) ?_)
    · refine sq_round ⟨i + 1, by omega, hst (by simpa using h)⟩ (by show k.length - (i + 1) < k.length - i; omega) ?_ ?_
      · repeat' (first | exact says_nil | refine says_cons rfl ?_ | refine says_cons (by simp) ?_)
      · repeat' (first | with_reducible exact Ent.refl _ | with_reducible refine Ent.take_eq ?_ ?_ | rfl | with_reducible refine Ent.oR ?_ | with_reducible refine Ent.trans (oR.drop _ _ _) ?_ | with_reducible refine Ent.trans (Ent.drop _ _) ?_)
  · repeat' (first | with_reducible refine sw_in (by omega) ?_ | with_reducible (first | refine go1 ?_ | refine sct ?_ | refine scf ?_ | refine sgr ?_) | (with_reducible refine sc_cond (fun h => ?_) (fun h => ?_)) <;> (try (exfalso; first | contradiction | omega | exact h Iff.rfl)) | fail)
    refine sq_ret1 Tryd.results20 ?_
    refine ⟨_, ⟨?_, rfl⟩, ?_⟩
    · rw [List.take_of_length_le (by omega), List.take_of_length_le (by omega)] at hik
      rw [decide_eq_true hik]
    · repeat' (first | with_reducible exact Ent.refl _ | with_reducible refine Ent.take_eq ?_ ?_ | rfl | with_reducible refine Ent.oR ?_ | with_reducible refine Ent.trans (oR.drop _ _ _) ?_ | with_reducible refine Ent.trans (Ent.drop _ _) ?_)
end Go.Gsl

namespace Go.Gsl
set_option linter.unusedVariables false
open Go.Proofs

theorem avC_part {av : List AV} {l : List Act} (h : List.map Prod.fst av = l) {i : Nat} (hi : i < l.length) (d : Act) : ∃ kv, (l.getD i d, kv) ∈ av ∧ ((avC av).drop (i * 9)).take 9 = actC (l.getD i d) kv := by
  have hl : i < av.length := by rw [← h, List.length_map] at hi; exact hi
  obtain ⟨p, hp⟩ : ∃ p, av[i]? = some p := ⟨_, List.getElem?_eq_getElem hl⟩
  have h1 : p.1 = l.getD i d := by rw [← h, List.getD_eq_getElem?_getD, List.getElem?_map, hp]; rfl
  refine ⟨p.2, ?_, ?_⟩
  · rw [← h1]; exact List.mem_of_getElem? hp
  · rw [← h1]; exact avC_at av i p hp
theorem acts_ne {a b : List Act} {i : Nat} (d : Act) (h : a.getD i d ≠ b.getD i d) : a ≠ b := by rintro rfl; exact h rfl
def act00 : Act := ⟨0, 0, noCall, []⟩
instance AckOneL (x : Act) (a : Option Addr) (m c : Nat) : OneL (actC x (.slice a m c)) := ⟨by
  intro v hv
  simp only [List.mem_cons, List.not_mem_nil, or_false] at hv
  rcases hv with rfl | rfl | rfl | rfl | rfl | rfl | rfl | rfl | rfl <;> rfl⟩

set_option maxHeartbeats 4000000 in
theorem qSame_ok (K : Nat) (r : HProp) (c0 c1 c2 c3 c4 c5 c6 d0 d1 d2 d3 d4 d5 d6 : Int) (vx vy : Value) (x y : List Act) (hx : RdAs r vx x) (hy : RdAs r vy y) (hl : x.length ≤ 1073741824) :
    Spec Tryd.prog 12 [.agg ([.int .i64 c0, .int .i64 c1, .int .i64 c2, .int .i64 c3, .int .i64 c4, .int .i64 c5, .int .i64 c6, vx] : List Value).toArray, .agg ([.int .i64 d0, .int .i64 d1, .int .i64 d2, .int .i64 d3, .int .i64 d4, .int .i64 d5, .int .i64 d6, vy] : List Value).toArray] [K] [r]
    fun F v Rs' => v = .bool (decide ([c0, c1, c2, c3, c4, c5, c6] = [d0, d1, d2, d3, d4, d5, d6]) && decide (x = y)) ∧ Rs' = (K, r) :: F := by
  obtain ⟨a, c, av, rfl, hav, ha, hra, hka, hla⟩ := hx
  obtain ⟨a', c', av', rfl, hav', ha', hra', hka', hla'⟩ := hy
  have hcl : ([.int .i64 c0, .int .i64 c1, .int .i64 c2, .int .i64 c3, .int .i64 c4, .int .i64 c5, .int .i64 c6] : List Value).length = 7 := rfl
  have hcl' : ([.int .i64 d0, .int .i64 d1, .int .i64 d2, .int .i64 d3, .int .i64 d4, .int .i64 d5, .int .i64 d6] : List Value).length = 7 := rfl
  have rd0 : ∀ (b : Nat) (cs : List Value), Reads (pts b (.cells cs.toArray 26 (0, 0))) (some ⟨b, 0, none⟩) cs := fun b cs => reads_pts fun j v hj => by rw [Nat.zero_add]; exact hj
  refine spec_of Tryd.func12 rfl Tryd.ntmps12 rfl ?_
  intro w0 F
  repeat' (first | with_reducible (first | refine go1 ?_ | refine sct ?_ | refine scf ?_ | refine sgr ?_) | fail)
  refine sw_box fun b2 => ?_
  repeat' (first | with_reducible (first | refine go1 ?_ | refine sct ?_ | refine scf ?_ | refine sgr ?_) | fail)
  refine sw_box fun b3 => ?_
  repeat' (first | with_reducible (first | refine go1 ?_ | refine sct ?_ | refine scf ?_ | refine sgr ?_) | with_reducible refine sw_load_aggR b2 0 [.int .i64 c0, .int .i64 c1, .int .i64 c2, .int .i64 c3, .int .i64 c4, .int .i64 c5, .int .i64 c6] (rd0 b2 _) hcl rfl rfl ?_ | with_reducible refine sw_load_aggR b3 0 [.int .i64 d0, .int .i64 d1, .int .i64 d2, .int .i64 d3, .int .i64 d4, .int .i64 d5, .int .i64 d6] (rd0 b3 _) hcl' rfl rfl ?_ | with_reducible refine sw_guard_skip_u ?_ | (with_reducible refine sc_cond (fun h => ?_) (fun h => ?_)) <;> (try (exfalso; first | contradiction | omega | exact h Iff.rfl)) | (with_reducible refine sw_guard_split (fun h => ?_) (fun h => ?_)) <;> (try (exfalso; first | contradiction | omega | exact h Iff.rfl)) | (with_reducible refine sw_pick (fun h => ?_) (fun h => ?_)) <;> (try (exfalso; first | contradiction | omega | exact h Iff.rfl)) | fail)
  · refine sq_ret1 Tryd.results12 ?_
    refine ⟨_, ⟨by rw [decide_eq_false (p := [c0, c1, c2, c3, c4, c5, c6] = _) (by assumption)]; rfl, rfl⟩, ?_⟩
    repeat' (first | with_reducible exact Ent.refl _ | with_reducible refine Ent.take_eq ?_ ?_ | rfl | with_reducible refine Ent.oR ?_ | with_reducible refine Ent.trans (oR.drop _ _ _) ?_ | with_reducible refine Ent.trans (Ent.drop _ _) ?_)
  · refine sq_ret1 Tryd.results12 ?_
    refine ⟨_, ⟨by rw [decide_eq_false (p := x = y) (by rintro rfl; rename_i h; exact h rfl), Bool.and_false], rfl⟩, ?_⟩
    repeat' (first | with_reducible exact Ent.refl _ | with_reducible refine Ent.take_eq ?_ ?_ | rfl | with_reducible refine Ent.oR ?_ | with_reducible refine Ent.trans (oR.drop _ _ _) ?_ | with_reducible refine Ent.trans (Ent.drop _ _) ?_)
  rename_i g1
  have hlk : x.length = y.length := by omega
  rw [decide_eq_true (p := [c0, c1, c2, c3, c4, c5, c6] = _) (Classical.not_not.1 g1), Bool.true_and]
  refine sc_keep [2, 3, 4, 5] fun e1 => ?_
  simp only [List.cons_append, List.nil_append]
  refine sc_loop (α := { i : Nat // i ≤ x.length ∧ x.take i = y.take i }) (fun i => [(2, .pointer (some ⟨b2, 0, none⟩)), (3, .pointer (some ⟨b3, 0, none⟩)), (4, .bool false), (5, .int .i64 (i.1 : Int))])
    (fun _ => (b3, pts b3 (.cells ([.int .i64 d0, .int .i64 d1, .int .i64 d2, .int .i64 d3, .int .i64 d4, .int .i64 d5, .int .i64 d6, .slice a' y.length c'] : List Value).toArray 26 (0, 0))) ::
      (b2, pts b2 (.cells ([.int .i64 c0, .int .i64 c1, .int .i64 c2, .int .i64 c3, .int .i64 c4, .int .i64 c5, .int .i64 c6, .slice a x.length c] : List Value).toArray 26 (0, 0))) :: (K, r) :: F) (fun i => x.length - i.1) ⟨0, Nat.zero_le _, rfl⟩ ?_ ?_ ?_
  · repeat' (first | exact says_nil | refine says_cons rfl ?_ | refine says_cons (by simp) ?_)
  · repeat' (first | with_reducible exact Ent.refl _ | with_reducible refine Ent.take_eq ?_ ?_ | rfl | with_reducible refine Ent.oR ?_ | with_reducible refine Ent.trans (oR.drop _ _ _) ?_ | with_reducible refine Ent.trans (Ent.drop _ _) ?_)
  rintro ⟨i, hi, hik⟩ e
  simp only [List.cons_append, List.nil_append]
  by_cases hil : i < x.length
  · obtain ⟨b, o, rfl⟩ := ha (by omega)
    obtain ⟨b', o', rfl⟩ := ha' (by omega)
    obtain ⟨kv, hm1, hv1⟩ := avC_part hav hil act00
    obtain ⟨kv', hm2, hv2⟩ := avC_part hav' (show i < y.length by omega) act00
    have hSA := qSameAct_ok K r (x.getD i act00) (y.getD i act00) kv kv' (hka _ hm1) (hka' _ hm2) (hla _ hm1)
    have hne := acts_ne (a := x) (b := y) (i := i) act00
    have hst := take_eq_step act00 hil (show i < y.length by omega) hik
    generalize x.getD i act00 = u at *
    generalize y.getD i act00 = u' at *
    have hul : (actC u kv).length = 9 := rfl
    have hul' : (actC u' kv').length = 9 := rfl
    repeat' (first | with_reducible refine sw_in (by omega) ?_ | with_reducible (first | refine go1 ?_ | refine sct ?_ | refine scf ?_ | refine sgr ?_) | (with_reducible refine sc_cond (fun h => ?_) (fun h => ?_)) <;> (try (exfalso; first | contradiction | omega | exact h Iff.rfl)) | fail)
    refine sc_lin ([(b2, pts b2 (.cells ([.int .i64 c0, .int .i64 c1, .int .i64 c2, .int .i64 c3, .int .i64 c4, .int .i64 c5, .int .i64 c6, .slice (some ⟨b, o, none⟩) x.length c] : List Value).toArray 26 (0, 0))), (b3, pts b3 (.cells ([.int .i64 d0, .int .i64 d1, .int .i64 d2, .int .i64 d3, .int .i64 d4, .int .i64 d5, .int .i64 d6, .slice (some ⟨b', o', none⟩) y.length c'] : List Value).toArray 26 (0, 0))), (K, r)]) (llp 0 (llp 1 (llp 2 (llp 3 (llp 4 (llp 5 (llp 6 (llp 7 (llp 8 (llp 9 (lle 10 (llp 11 ll0)))))))))))) (by kernel_rfl) rfl (by kernel_rfl) ?_
    all_goals (iterate 3 refine go1l ?_)
    all_goals refine sl_take (h := runop_indexN i ⟨rfl, by omega⟩) ?_
    all_goals refine sl_take (h := runop_load_aggR K (i * 9) (actC u kv) hra hul hv1 (by omega)) ?_
    all_goals (iterate 3 refine go1l ?_)
    all_goals refine sl_take (h := runop_indexN i ⟨rfl, by omega⟩) ?_
    all_goals refine sl_take (h := runop_load_aggR K (i * 9) (actC u' kv') hra' hul' hv2 (by omega)) ?_
    all_goals refine sl_eff ?_
    all_goals (repeat' (first | with_reducible (first | refine go1 ?_ | refine sct ?_ | refine scf ?_ | refine sgr ?_) | ((with_reducible refine sw_callf hSA ?_); rintro _ _ ⟨rfl, rfl⟩) | with_reducible refine sl_back ?_ | fail))
    all_goals refine go1l ?_
    all_goals refine sl_done ?_
    repeat' (first | with_reducible refine sw_in (by omega) ?_ | with_reducible (first | refine go1 ?_ | refine sct ?_ | refine scf ?_ | refine sgr ?_) | (with_reducible refine sc_cond (fun h => ?_) (fun h => ?_)) <;> (try (exfalso; first | contradiction | omega | exact h Iff.rfl)) | fail)
    · refine sq_ret1 Tryd.results12 ?_
      refine ⟨_, ⟨by rw [decide_eq_false (hne (by assumption))], rfl⟩, ?_⟩
      repeat' (first | with_reducible exact Ent.refl _ | with_reducible refine Ent.take_eq ?_ ?_ | rfl | with_reducible refine Ent.oR ?_ | with_reducible refine Ent.trans (oR.drop _ _ _) ?_ | with_reducible refine Ent.trans (Ent.drop _ _) ?_)
    · refine sq_round ⟨i + 1, by omega, hst (Classical.not_not.1 (by assumption))⟩ (by show x.length - (i + 1) < x.length - i; omega) ?_ ?_
      · repeat' (first | exact says_nil | refine says_cons rfl ?_ | refine says_cons (by simp) ?_)
      · repeat' (first | with_reducible exact Ent.refl _ | with_reducible refine Ent.take_eq ?_ ?_ | rfl | with_reducible refine Ent.oR ?_ | with_reducible refine Ent.trans (oR.drop _ _ _) ?_ | with_reducible refine Ent.trans (Ent.drop _ _) ?_)
  · repeat' (first | with_reducible refine sw_in (by omega) ?_ | with_reducible (first | refine go1 ?_ | refine sct ?_ | refine scf ?_ | refine sgr ?_) | (with_reducible refine sc_cond (fun h => ?_) (fun h => ?_)) <;> (try (exfalso; first | contradiction | omega | exact h Iff.rfl)) | fail)
    refine sq_ret1 Tryd.results12 ?_
    refine ⟨_, ⟨?_, rfl⟩, ?_⟩
    · rw [List.take_of_length_le (by omega), List.take_of_length_le (by omega)] at hik
      rw [decide_eq_true hik]
    · repeat' (first | with_reducible exact Ent.refl _ | with_reducible refine Ent.take_eq ?_ ?_ | rfl | with_reducible refine Ent.oR ?_ | with_reducible refine Ent.trans (oR.drop _ _ _) ?_ | with_reducible refine Ent.trans (Ent.drop _ _) ?_)
end Go.Gsl

namespace Go.Gsl
set_option linter.unusedVariables false
open Go.Proofs

theorem reads_hall {k : Nat} {r : HProp} {a : Option Addr} {xs : List Value} : ∀ {L : List Res}, (k, r) ∈ L → Reads r a xs → Reads (hall L) a xs
  | [], h, _ => by cases h
  | q :: L, h, hr => by
    rintro hp w ⟨x, y, hd, rfl, hq, hF⟩ hf
    rcases List.mem_cons.1 h with rfl | h
    · exact hr x w hq fun j o f hj => hf j o f (by simp [hjoin, hj])
    · refine reads_hall h hr y w hF fun j o f hj => hf j o f ?_
      rcases hd j with g | g | ⟨o', g, g'⟩
      · simp [hjoin, g, hj]
      · rw [g] at hj; cases hj
      · rw [g'] at hj; simp only [Option.some.injEq, Prod.mk.injEq] at hj
        obtain ⟨rfl, rfl⟩ := hj
        simp [hjoin, g]
theorem kR_mem {l : List AK} {p : AK} {q : Nat × Nat × List Value} (h : p ∈ l) (hq : p.2 = some q) : nG 4 (boolC p.1.k) q ∈ kR l [] := by
  induction l with
  | nil => cases h
  | cons x l ih =>
    show _ ∈ oR _ (kR l []) x.2
    rcases List.mem_cons.1 h with rfl | h
    · rw [hq]; exact List.mem_cons_self
    · have := ih h
      cases x.2 with
      | none => exact this
      | some y => exact List.mem_cons_of_mem _ this
theorem RdAs.of_ak {L : List Res} {k1 k2 : Nat} {l : List AK} {o : Option (Nat × Nat × List Value)} (hA : AkN l) (hN : NOk 9 (akC l) l.length o) (hl : ∀ p ∈ l, p.1.k.length ≤ 1073741824)
    (h1 : (k1, KP l) ∈ L) (h2 : (k2, hall (oR (nG 46 (akC l)) [] o)) ∈ L) : RdAs (hall L) (nV l.length o) (l.map Prod.fst) := by
  have key : ∃ a c, nV l.length o = .slice a (l.map Prod.fst).length c ∧ (0 < (l.map Prod.fst).length → ∃ b o, a = some ⟨b, o, none⟩) ∧ Reads (hall L) a (akC l) := by
    rw [List.length_map]
    cases o with
    | none =>
      have := (hN.2.1 rfl)
      refine ⟨none, 0, by rw [this.2]; rfl, fun h => by omega, ?_⟩
      rw [this.1]; exact reads_nil _ _
    | some q =>
      obtain ⟨b, c, t⟩ := q
      refine ⟨some ⟨b, 0, none⟩, c, rfl, fun _ => ⟨b, 0, rfl⟩, reads_hall h2 (reads_hall (k := b) (r := pts b (.cells (akC l ++ t).toArray 46 (0, 0))) List.mem_cons_self (reads_pts fun j v hj => by rw [Nat.zero_add, List.getElem?_append_left (List.getElem?_eq_some_iff.1 hj).1]; exact hj))⟩
  obtain ⟨a, c, hv, ha, hr⟩ := key
  refine ⟨a, c, l.map fun p => (p.1, nV p.1.k.length p.2), hv, by rw [List.map_map]; rfl, ha, ?_, ?_, ?_⟩
  · have e1 : avC (l.map fun p => (p.1, nV p.1.k.length p.2)) = akC l := by unfold avC akC; rw [List.flatMap_map]
    rw [e1]; exact hr
  · intro q hq
    obtain ⟨p, hp, rfl⟩ := List.mem_map.1 hq
    show RdK _ (nV p.1.k.length p.2) p.1.k
    cases hz : p.2 with
    | none =>
      rw [hA p hp hz]
      exact ⟨none, 0, rfl, fun h => by simp at h, reads_nil _ _⟩
    | some z =>
      obtain ⟨b, c, t⟩ := z
      refine ⟨some ⟨b, 0, none⟩, c, rfl, fun _ => ⟨b, 0, rfl⟩, reads_hall h1 (reads_hall (k := b) (kR_mem hp hz) (reads_pts fun j v hj => by rw [Nat.zero_add, List.getElem?_append_left (List.getElem?_eq_some_iff.1 hj).1]; exact hj))⟩
  · intro q hq
    obtain ⟨p, hp, rfl⟩ := List.mem_map.1 hq
    exact hl p hp
theorem RdAs.nil (r : HProp) : RdAs r (.slice none 0 0) [] := ⟨none, 0, [], rfl, rfl, fun h => by simp at h, reads_nil _ _, fun p h => (by cases h), fun p h => (by cases h)⟩

/-! ### what a script that was read has -/
theorem addVals_k {N : Nat} : ∀ (cs : Bs) (ws : List Tok) (f g : Flds), addVals f cs ws = some g → f.k.length ≤ N → (∀ x ∈ ws, x.s.length ≤ N) → g.k.length ≤ N
  | [], ws, f, g, h, hf, _ => by cases ws <;> (obtain rfl := Option.some.inj h; exact hf)
  | c :: cs, [], f, g, h, hf, _ => by obtain rfl := Option.some.inj h; exact hf
  | c :: cs, w :: ws, f, g, h, hf, hw => by
    rw [addVals] at h
    cases ha : addVal f c w with
    | none => rw [ha] at h; cases h
    | some f1 =>
      rw [ha] at h
      refine addVals_k cs ws f1 g h ?_ fun x hx => hw x (by simp [hx])
      unfold addVal at ha
      by_cases h1 : iv c = 110
      · rw [if_pos h1] at ha
        obtain ⟨v, _, rfl⟩ := Option.map_eq_some_iff.1 ha
        exact hf
      · rw [if_neg h1] at ha
        by_cases h2 : iv c = 107
        · rw [if_pos h2] at ha
          obtain ⟨v, hv, rfl⟩ := Option.map_eq_some_iff.1 ha
          unfold keepsS at hv
          by_cases h3 : w.s = [45]
          · rw [if_pos h3] at hv; obtain rfl := Option.some.inj hv; simp
          · rw [if_neg h3] at hv
            split at hv
            · obtain rfl := Option.some.inj hv
              show (List.map _ _).length ≤ N
              rw [List.length_map]; exact hw w (by simp)
            · cases hv
        · rw [if_neg h2] at ha
          obtain rfl := Option.some.inj ha
          exact hf
theorem fits_k {N : Nat} {w : Tok} {ws : List Tok} {f : Flds} (h : fitsOf (w :: ws) = .ok f) (hw : ∀ x ∈ w :: ws, x.s.length ≤ N) : f.k.length ≤ N := by
  unfold fitsOf at h
  simp only at h
  cases hf : formOf w.s with
  | none => rw [hf] at h; cases h
  | some cs =>
    rw [hf] at h
    simp only at h
    split at h
    · cases h
    · cases ha : addVals ⟨[], [], []⟩ cs ws with
      | none => rw [ha] at h; cases h
      | some g =>
        rw [ha] at h
        simp only [Except.ok.injEq] at h
        subst h
        exact addVals_k cs ws _ _ ha (Nat.zero_le _) fun x hx => hw x (by simp [hx])
/-- what is so of each script on the way -/
def ScrOk (N : Nat) (r : Scr) : Prop := (∀ c, r.c = some c → c.length = 7) ∧ ∀ a ∈ r.a, a.k.length ≤ N
theorem take_ok {N : Nat} {r r' : Scr} {s : Bs} (h : takeS r s = .ok r') (hs : s.length ≤ N) (hr : ScrOk N r) : ScrOk N r' := by
  cases hw : wordsL s with
  | none => rw [take_none hw] at h; cases h
  | some l =>
    cases l with
    | nil => rw [take_nil hw] at h; simp only [Except.ok.injEq] at h; subst h; exact hr
    | cons w ws =>
      rw [take_cons hw] at h
      obtain ⟨hb1, hb2⟩ := words_bound _ _ _ (Nat.le_refl _) hw
      split at h
      · cases h
      · split at h
        · cases h
        · cases hf : fitsOf (w :: ws) with
          | error e => rw [hf] at h; cases h
          | ok f =>
            rw [hf] at h
            simp only at h
            split at h
            · rename_i hst
              simp only [Except.ok.injEq] at h
              subst h
              refine ⟨fun c hc => ?_, hr.2⟩
              simp only [Option.some.injEq] at hc
              subst hc
              obtain ⟨z, zt⟩ := w
              simp only [Bool.and_eq_true, decide_eq_true_eq] at hst
              obtain ⟨_, rfl⟩ := hst
              exact fits_n7 hf
            · split at h
              · cases h
              · simp only [Except.ok.injEq] at h
                subst h
                refine ⟨hr.1, fun a ha => ?_⟩
                rcases List.mem_append.1 ha with ha | ha
                · exact hr.2 a ha
                · simp only [List.mem_cons, List.not_mem_nil, or_false] at ha
                  subst ha
                  rw [act_k]
                  split
                  · simp
                  · exact fits_k hf fun x hx => by have := hb2 x hx; omega
theorem parseF_ok {N : Nat} : ∀ (f : Nat) (r r' : Scr) (n n' : Int) (s : Bs), parseF f r n s = .ok (r', n') → s.length ≤ N → ScrOk N r → ScrOk N r'
  | 0, r, r', n, n', s, h, _, hr => by
    simp only [parseF, Except.ok.injEq, Prod.mk.injEq] at h
    rw [← h.1]; exact hr
  | f + 1, r, r', n, n', s, h, hs, hr => by
    rw [parseF] at h
    by_cases h0 : s = []
    · rw [if_pos h0] at h
      simp only [Except.ok.injEq, Prod.mk.injEq] at h
      rw [← h.1]; exact hr
    · rw [if_neg h0] at h
      cases ht : takeS r (cutW 10 s) with
      | error e => rw [ht] at h; cases h
      | ok r1 =>
        rw [ht] at h
        have hcl := cutW_len 10 s
        have hcr : (cutR 10 s).length ≤ s.length := by
          cases s with
          | nil => exact absurd rfl h0
          | cons x s => have := cutR_len 10 x s; omega
        exact parseF_ok f r1 r' (n + 1) n' _ h (by omega) (take_ok ht (by omega) hr)
theorem parse_ok {N : Nat} {s : Bs} {r : Scr} (h : parseS s = .ok r) (hs : s.length ≤ N) : ScrOk N r := by
  unfold parseS at h
  cases hp : parseF (s.length + 1) ⟨none, []⟩ 0 s with
  | error e => rw [hp] at h; cases h
  | ok q =>
    obtain ⟨r1, n⟩ := q
    rw [hp] at h
    simp only at h
    split at h
    · cases h
    · simp only [Except.ok.injEq] at h
      subst h
      exact parseF_ok _ _ _ _ _ _ hp hs ⟨fun c h => (by cases h), fun a h => (by cases h)⟩

set_option maxHeartbeats 4000000 in
theorem l26Reads_ok (W : World) (hT : Tabs Tryd.prog W) (s : Bs) (hs : s.length ≤ 1073741824) : Spec Tryd.prog 3 [.string (sB s)] [0] [ro W]
    fun F v Rs' => v = .bool true ∧ Rs' = (0, ro W) :: F := by
  have hP := sParse_ok W hT s hs
  have hQ := qParse_ok s hs
  have hB := begun_ok W hT
  cases hp : parseS s with
  | error q =>
    obtain ⟨er, k⟩ := q
    rw [hp] at hP hQ
    have hS := qSame_ok 0 (ro W) 0 0 0 0 0 0 0 0 0 0 0 0 0 0 (.slice none 0 0) (.slice none 0 0) [] [] (RdAs.nil _) (RdAs.nil _) (by simp)
    refine spec_of Tryd.func3 rfl Tryd.ntmps3 rfl ?_
    intro w0 F
    repeat' (first | with_reducible (first | refine go1 ?_ | refine sct ?_ | refine scf ?_ | refine sgr ?_) | fail)
    refine sw_callf hP ?_
    rintro _ _ (⟨c, l, o, h, _⟩ | ⟨er', k', h, rfl, rfl⟩)
    · cases h
    simp only [Except.error.injEq, Prod.mk.injEq] at h
    obtain ⟨rfl, rfl⟩ := h
    repeat' (first | with_reducible (first | refine go1 ?_ | refine sct ?_ | refine scf ?_ | refine sgr ?_) | with_reducible refine sw_alloc fun b3 => ?_ | with_reducible refine sw_store_agg ?_ | fail)
    refine sw_callf hQ ?_
    rintro _ _ (⟨c, l, o, h, _⟩ | ⟨er', k', h, rfl, rfl⟩)
    · cases h
    simp only [Except.error.injEq, Prod.mk.injEq] at h
    obtain ⟨rfl, rfl⟩ := h
    repeat' (first | with_reducible (first | refine go1 ?_ | refine sct ?_ | refine scf ?_ | refine sgr ?_) | with_reducible refine sw_alloc fun b6 => ?_ | with_reducible refine sw_store_agg ?_ | ((with_reducible refine sw_callf hB ?_); rintro _ _ ⟨rfl, rfl⟩) | ((with_reducible refine sw_callf hS ?_); rintro _ _ ⟨rfl, rfl⟩) | with_reducible refine sw_guard_skip_u ?_ | (with_reducible refine sc_cond (fun h => ?_) (fun h => ?_)) <;> (try (exfalso; first | contradiction | omega | exact h Iff.rfl)) | (with_reducible refine sw_guard_split (fun h => ?_) (fun h => ?_)) <;> (try (exfalso; first | contradiction | omega | exact h Iff.rfl)) | (with_reducible refine sw_pick (fun h => ?_) (fun h => ?_)) <;> (try (exfalso; first | contradiction | omega | exact h Iff.rfl)) | fail)
    all_goals (first | (exfalso; rename_i h; exact h rfl) | skip)
    refine sq_ret1 Tryd.results3 ?_
    refine ⟨_, ⟨rfl, rfl⟩, ?_⟩
    repeat' (first | with_reducible exact Ent.refl _ | with_reducible refine Ent.take_eq ?_ ?_ | rfl | with_reducible refine Ent.oR ?_ | with_reducible refine Ent.trans (oR.drop _ _ _) ?_ | with_reducible refine Ent.trans (Ent.drop _ _) ?_)
  | ok sc =>
    have hok := parse_ok hp hs
    obtain ⟨co, acts⟩ := sc
    rw [hp] at hP hQ
    refine spec_of Tryd.func3 rfl Tryd.ntmps3 rfl ?_
    intro w0 F
    repeat' (first | with_reducible (first | refine go1 ?_ | refine sct ?_ | refine scf ?_ | refine sgr ?_) | fail)
    refine sw_callf hP ?_
    rintro _ _ (⟨c, l, o, h, hN, hl, hA, rfl, rfl⟩ | ⟨er', k', h, _⟩)
    rotate_left
    · cases h
    simp only [Except.ok.injEq, Scr.mk.injEq] at h
    obtain ⟨rfl, rfl⟩ := h
    obtain ⟨hc7, hak⟩ := hok
    have hc7 := hc7 c rfl
    obtain ⟨n0, n1, n2, n3, n4, n5, n6, rfl⟩ : ∃ n0 n1 n2 n3 n4 n5 n6, c = [n0, n1, n2, n3, n4, n5, n6] := by
      match c, hc7 with
      | [a, b, c, d, e, f, g], _ => exact ⟨a, b, c, d, e, f, g, rfl⟩
    repeat' (first | with_reducible (first | refine go1 ?_ | refine sct ?_ | refine scf ?_ | refine sgr ?_) | with_reducible refine sw_alloc fun b3 => ?_ | with_reducible refine sw_store_agg ?_ | fail)
    refine sw_callf hQ ?_
    rintro _ _ (⟨c', l', o', h, hN', hl', hA', rfl, rfl⟩ | ⟨er', k', h, _⟩)
    rotate_left
    · cases h
    simp only [Except.ok.injEq, Scr.mk.injEq, Option.some.injEq] at h
    obtain ⟨rfl, hll⟩ := h
    have hak1 : ∀ p ∈ l, p.1.k.length ≤ 1073741824 := fun p hp => hak p.1 (List.mem_map_of_mem hp)
    have hak2 : ∀ p ∈ l', p.1.k.length ≤ 1073741824 := fun p hp => hak p.1 (by simp only; rw [hll]; exact List.mem_map_of_mem hp)
    obtain ⟨L, hL⟩ : ∃ L : List Res, L = [(7011, KP l), (7012, hall (oR (nG 46 (akC l)) [] o)), (7021, KP l'), (7022, hall (oR (nG 46 (akC l')) [] o'))] := ⟨_, rfl⟩
    have hr1 : RdAs (hall L) (nV l.length o) (l.map Prod.fst) := RdAs.of_ak (k1 := 7011) (k2 := 7012) hA hN hak1 (by rw [hL]; simp) (by rw [hL]; simp)
    have hr2 : RdAs (hall L) (nV l'.length o') (l'.map Prod.fst) := RdAs.of_ak (k1 := 7021) (k2 := 7022) hA' hN' hak2 (by rw [hL]; simp) (by rw [hL]; simp)
    have hS : Spec Tryd.prog 12 [.agg (scrC [n0, n1, n2, n3, n4, n5, n6] (nV l.length o)).toArray, .agg (scrC [n0, n1, n2, n3, n4, n5, n6] (nV l'.length o')).toArray] [7030] [hall L] _ := qSame_ok 7030 (hall L) n0 n1 n2 n3 n4 n5 n6 n0 n1 n2 n3 n4 n5 n6 _ _ _ _ hr1 hr2 (by rw [List.length_map]; omega)
    rw [decide_eq_true rfl, decide_eq_true hll] at hS
    refine sw_ent (Rs'' := (7030, hall L) :: (0, ro W) :: (b3, pts b3 (.cells (scrC [n0, n1, n2, n3, n4, n5, n6] (nV l.length o)).toArray 26 (0, 0))) :: F) ?_ ?_
    · refine Ent.hall1 ?_
      rw [hL]
      simp only [List.cons_append, List.nil_append]
      repeat' (first | with_reducible exact Ent.refl _ | with_reducible refine Ent.take_eq ?_ ?_ | rfl | with_reducible refine Ent.oR ?_ | with_reducible refine Ent.trans (oR.drop _ _ _) ?_ | with_reducible refine Ent.trans (Ent.drop _ _) ?_)
    repeat' (first | with_reducible (first | refine go1 ?_ | refine sct ?_ | refine scf ?_ | refine sgr ?_) | with_reducible refine sw_alloc fun b6 => ?_ | with_reducible refine sw_store_agg ?_ | ((with_reducible refine sw_callf hB ?_); rintro _ _ ⟨rfl, rfl⟩) | ((with_reducible refine sw_callf hS ?_); rintro _ _ ⟨rfl, rfl⟩) | with_reducible refine sw_guard_skip_u ?_ | (with_reducible refine sc_cond (fun h => ?_) (fun h => ?_)) <;> (try (exfalso; first | contradiction | omega | exact h Iff.rfl)) | (with_reducible refine sw_guard_split (fun h => ?_) (fun h => ?_)) <;> (try (exfalso; first | contradiction | omega | exact h Iff.rfl)) | (with_reducible refine sw_pick (fun h => ?_) (fun h => ?_)) <;> (try (exfalso; first | contradiction | omega | exact h Iff.rfl)) | fail)
    all_goals (first | (exfalso; rename_i h; exact h rfl) | skip)
    refine sq_ret1 Tryd.results3 ?_
    refine ⟨_, ⟨rfl, rfl⟩, ?_⟩
    repeat' (first | with_reducible exact Ent.refl _ | with_reducible refine Ent.take_eq ?_ ?_ | rfl | with_reducible refine Ent.oR ?_ | with_reducible refine Ent.trans (oR.drop _ _ _) ?_ | with_reducible refine Ent.trans (Ent.drop _ _) ?_)
end Go.Gsl
