/- ScriptBack's own function. -/
import Derived.Test.YtjfieigjicbldaaDoorGVF
import Derived.Test.YtjfieigjicbldaaDoorGNC
namespace Go.Gsl
set_option linter.unusedVariables false
open Go.Proofs

/-- what parse answers, all rows in one -/
def parseL (k : Nat) (l : List AK) (o : Option (Nat × Nat × List Value)) : List Res := [(7011, KP l), (7012, hall (oR (nG 46 (akC l)) [] o))]
/-- Parse, read: all that a script keeps under one key -/
theorem Parse_ok (W : World) (hT : Tabs Tryd.prog W) (K : Nat) (s : Bs) (hs : s.length ≤ 1073741824) {c0 c1 c2 c3 c4 c5 c6 : Int} {acts : List Act} (h : parseS s = .ok ⟨some [c0, c1, c2, c3, c4, c5, c6], acts⟩) :
    Spec Tryd.prog 9 [.string (sB s)] [0] [ro W] fun F v Rs' => ∃ va r, RdAs r va acts ∧ One va ∧ v = .tuple #[.agg ([.int .i64 c0, .int .i64 c1, .int .i64 c2, .int .i64 c3, .int .i64 c4, .int .i64 c5, .int .i64 c6, va] : List Value).toArray, .int .i64 0, .int .i64 0] ∧ Rs' = (0, ro W) :: (K, r) :: F := by
  intro w0 F w hw
  refine Calls.mono (sParse_ok W hT s hs w0 F w hw) ?_
  rintro e w' ⟨v, Rs', rfl, (⟨c, l, o, hp, hN, hl, hA, rfl, rfl⟩ | ⟨er, k, hp, _⟩), hw'⟩
  · rw [h] at hp
    simp only [Except.ok.injEq, Scr.mk.injEq, Option.some.injEq] at hp
    obtain ⟨rfl, rfl⟩ := hp
    obtain ⟨_, hak⟩ := parse_ok h hs
    refine ⟨_, _, rfl, ⟨nV l.length o, hall (parseL K l o), RdAs.of_ak (k1 := 7011) (k2 := 7012) hA hN (fun p hp => hak p.1 (List.mem_map_of_mem hp)) (by simp [parseL]) (by simp [parseL]), inferInstance, rfl, rfl⟩, ?_⟩
    exact hw'.ent (Ent.cons _ (Ent.hall_close K (parseL K l o) F))
  · rw [h] at hp; cases hp
theorem ParseE_ok (W : World) (hT : Tabs Tryd.prog W) (s : Bs) (hs : s.length ≤ 1073741824) {er k : Int} (h : parseS s = .error (er, k)) :
    Spec Tryd.prog 9 [.string (sB s)] [0] [ro W] fun F v Rs' => v = .tuple #[.agg zS.toArray, .int .i64 k, .int .i64 er] ∧ Rs' = (0, ro W) :: F := by
  refine (sParse_ok W hT s hs).mono ?_
  rintro F v Rs' (⟨c, l, o, hp, _⟩ | ⟨er', k', hp, rfl, rfl⟩)
  · rw [h] at hp; cases hp
  · rw [h] at hp
    simp only [Except.error.injEq, Prod.mk.injEq] at hp
    obtain ⟨rfl, rfl⟩ := hp
    exact ⟨rfl, rfl⟩
theorem parse_er {s : Bs} {er k : Int} (h : parseS s = .error (er, k)) : er ≠ 0 := by
  have hf : ∀ l e, fitsOf l = .error e → e ≠ 0 := by
    intro l e h
    unfold fitsOf at h
    cases l with
    | nil => simp only [Except.error.injEq] at h; omega
    | cons w ws =>
      simp only at h
      cases hf : formOf w.s with
      | none => rw [hf] at h; simp only [Except.error.injEq] at h; omega
      | some cs =>
        rw [hf] at h
        simp only at h
        split at h
        · simp only [Except.error.injEq] at h; omega
        · cases ha : addVals ⟨[], [], []⟩ cs ws with
          | none => rw [ha] at h; simp only [Except.error.injEq] at h; omega
          | some f => rw [ha] at h; cases h
  have ht : ∀ r s e, takeS r s = .error e → e ≠ 0 := by
    intro r s e h
    cases hw : wordsL s with
    | none => rw [take_none hw] at h; simp only [Except.error.injEq] at h; omega
    | some l =>
      cases l with
      | nil => rw [take_nil hw] at h; cases h
      | cons w ws =>
        rw [take_cons hw] at h
        split at h
        · simp only [Except.error.injEq] at h; omega
        · split at h
          · simp only [Except.error.injEq] at h; omega
          · cases hff : fitsOf (w :: ws) with
            | error e' => rw [hff] at h; simp only [Except.error.injEq] at h; rw [← h]; exact hf _ _ hff
            | ok f =>
              rw [hff] at h
              simp only at h
              split at h
              · cases h
              · split at h
                · simp only [Except.error.injEq] at h; omega
                · cases h
  have key : ∀ (f : Nat) (r : Scr) (k er n : Int) (s : Bs), parseF f r k s = .error (er, n) → er ≠ 0 := by
    intro f
    induction f with
    | zero => intro r k er n s h; cases h
    | succ f ih =>
      intro r k er n s h
      rw [parseF] at h
      by_cases h0 : s = []
      · rw [if_pos h0] at h; cases h
      · rw [if_neg h0] at h
        cases htk : takeS r (cutW 10 s) with
        | error e => rw [htk] at h; simp only [Except.error.injEq, Prod.mk.injEq] at h; rw [← h.1]; exact ht _ _ _ htk
        | ok r1 => rw [htk] at h; exact ih r1 (k + 1) er n _ h
  unfold parseS at h
  cases hp : parseF (s.length + 1) ⟨none, []⟩ 0 s with
  | error q =>
    rw [hp] at h
    simp only [Except.error.injEq] at h
    subst h
    exact key _ _ _ _ _ _ hp
  | ok q =>
    obtain ⟨r1, m⟩ := q
    rw [hp] at h
    simp only at h
    split at h
    · simp only [Except.error.injEq, Prod.mk.injEq] at h; omega
    · cases h
theorem RdAs.comb1 {k1 k2 : Nat} {r1 r2 : HProp} {v : Value} {l : List Act} (h : RdAs r1 v l) : RdAs (hall [(k1, r1), (k2, r2)]) v l := by
  obtain ⟨a, c, av, hv, hm, ha, hr, hk, hl⟩ := h
  have key : ∀ {a : Option Addr} {xs : List Value}, Reads r1 a xs → Reads (hall [(k1, r1), (k2, r2)]) a xs := fun h => reads_hall (k := k1) (by simp) h
  exact ⟨a, c, av, hv, hm, ha, key hr, fun p hp => by obtain ⟨b, d, h1, h2, h3⟩ := hk p hp; exact ⟨b, d, h1, h2, key h3⟩, hl⟩
theorem RdAs.comb2 {k1 k2 : Nat} {r1 r2 : HProp} {v : Value} {l : List Act} (h : RdAs r2 v l) : RdAs (hall [(k1, r1), (k2, r2)]) v l := by
  obtain ⟨a, c, av, hv, hm, ha, hr, hk, hl⟩ := h
  have key : ∀ {a : Option Addr} {xs : List Value}, Reads r2 a xs → Reads (hall [(k1, r1), (k2, r2)]) a xs := fun h => reads_hall (k := k2) (by simp) h
  exact ⟨a, c, av, hv, hm, ha, key hr, fun p hp => by obtain ⟨b, d, h1, h2, h3⟩ := hk p hp; exact ⟨b, d, h1, h2, key h3⟩, hl⟩
end Go.Gsl

namespace Go.Gsl
set_option linter.unusedVariables false
open Go.Proofs

theorem printV_ok {c : List Int} {l : List Act} {b : Bs} (h : printS c l = .ok b) : printV c l = .tuple #[.string (sB b), .int .i64 0] := by unfold printV; rw [h]
theorem printV_er {c : List Int} {l : List Act} {e : Int} (h : printS c l = .error e) : printV c l = .tuple #[.string (sB []), .int .i64 e] := by unfold printV; rw [h]
theorem print_er {c : List Int} {l : List Act} {e : Int} (h : printS c l = .error e) : e = 1 ∨ e = 3 := by
  unfold printS at h
  cases hx : linesS l with
  | none => rw [hx] at h; simp only [Except.error.injEq] at h; exact .inl h.symm
  | some xs =>
    rw [hx] at h
    simp only at h
    split at h
    · simp only [Except.error.injEq] at h; exact .inr h.symm
    · cases h
theorem small_sz {a : Act} (hn : I64 a.n) (h : a.sz ≤ 1048576) : a.small := by
  unfold Act.sz Call.sz at h
  exact ⟨hn, by omega, by omega, by omega, by omega, by omega⟩

/-- two kinds of memory, combined for one call -/
theorem Spec.two {P : Program} {f : FuncId} {args : List Value} {K k1 k2 : Nat} {r1 r2 : HProp} {c : Value} (h : Spec P f args [K] [hall [(k1, r1), (k2, r2)]] fun F v Rs' => v = c ∧ Rs' = (K, hall [(k1, r1), (k2, r2)]) :: F) :
    Spec P f args [k1, k2] [r1, r2] fun F v Rs' => v = c ∧ Rs' = (k1, r1) :: (k2, r2) :: F := by
  intro w0 F w hw
  have hw' : Sat w0 w ((k1, r1) :: (k2, r2) :: F) := hw
  refine (h w0 F w (hw'.ent (Ent.hall_close K [(k1, r1), (k2, r2)] F))).mono ?_
  rintro x w' ⟨v, Rs', hx, ⟨hv, rfl⟩, hs⟩
  exact ⟨v, _, hx, ⟨hv, rfl⟩, hs.ent (Ent.hall_open K [(k1, r1), (k2, r2)] F)⟩
theorem parse_some {s : Bs} {co : Option (List Int)} {acts : List Act} (h : parseS s = .ok ⟨co, acts⟩) : ∃ c, co = some c := by
  unfold parseS at h
  cases hp : parseF (s.length + 1) ⟨none, []⟩ 0 s with
  | error e => rw [hp] at h; cases h
  | ok q =>
    obtain ⟨r1, n⟩ := q
    rw [hp] at h
    simp only at h
    split at h
    · cases h
    · rename_i hn
      simp only [Except.ok.injEq] at h
      subst h
      cases co with
      | none => exact absurd rfl hn
      | some c => exact ⟨c, rfl⟩

set_option maxHeartbeats 8000000 in
theorem l26Back_ok (W : World) (hT : Tabs Tryd.prog W) (c0 c1 c2 c3 c4 c5 c6 : Int) (h0 : I64 c0) (h1 : I64 c1) (h2 : I64 c2) (h3 : I64 c3) (h4 : I64 c4) (h5 : I64 c5) (h6 : I64 c6) (va : Value) (l : List Act) (hA : RdAs (ro W) va l) (hs : ∀ a ∈ l, a.small) (hl : l.length ≤ 1048576)
    (hz : 4 * sumSz l + 61 * l.length + 210 ≤ 1073741824) (text : Bs) (ht : text.length ≤ 1048576) :
    Spec Tryd.prog 8 [.agg ([.int .i64 c0, .int .i64 c1, .int .i64 c2, .int .i64 c3, .int .i64 c4, .int .i64 c5, .int .i64 c6, va] : List Value).toArray, .string (sB text)] [0] [ro W]
    fun F v Rs' => v = .bool true ∧ Rs' = (0, ro W) :: F := by
  have hB := begun_ok W hT
  have hone : One va := by obtain ⟨a, c, av, rfl, _⟩ := hA; infer_instance
  have hPrint := sPrint_ok W hT 7040 (ro W) c0 c1 c2 c3 c4 c5 c6 h0 h1 h2 h3 h4 h5 h6 va l hA hs hl
  refine spec_of Tryd.func8 rfl Tryd.ntmps8 rfl ?_
  intro w0 F
  refine sc_ent (Ent.ro_dup 7040 W F) ?_
  cases hpr : printS [c0, c1, c2, c3, c4, c5, c6] l with
  | error e =>
    rw [printV_er hpr] at hPrint
    have he := print_er hpr
    repeat' (first | with_reducible (first | refine go1 ?_ | refine sct ?_ | refine scf ?_ | refine sgr ?_) | with_reducible refine sw_box fun b2 => ?_ | ((with_reducible refine sw_callf hB ?_); rintro _ _ ⟨rfl, rfl⟩) | ((with_reducible refine sw_callf hPrint ?_); rintro _ _ ⟨rfl, rfl⟩) | with_reducible refine sw_guard_skip_u ?_ | (with_reducible refine sc_cond (fun h => ?_) (fun h => ?_)) <;> (try (exfalso; first | contradiction | omega | exact h Iff.rfl)) | (with_reducible refine sw_guard_split (fun h => ?_) (fun h => ?_)) <;> (try (exfalso; first | contradiction | omega | exact h Iff.rfl)) | (with_reducible refine sw_pick (fun h => ?_) (fun h => ?_)) <;> (try (exfalso; first | contradiction | omega | exact h Iff.rfl)) | fail)
    · cases hp : parseS text with
      | error q =>
        obtain ⟨er, k⟩ := q
        have hPE := ParseE_ok W hT text (by omega) hp
        have her := parse_er hp
        have hkp := parse_pos hp
        repeat' (first | with_reducible (first | refine go1 ?_ | refine sct ?_ | refine scf ?_ | refine sgr ?_) | ((with_reducible refine sw_callf hPE ?_); rintro _ _ ⟨rfl, rfl⟩) | with_reducible refine sw_alloc fun b10 => ?_ | with_reducible refine sw_store_agg ?_ | with_reducible refine sw_guard_skip_u ?_ | (with_reducible refine sc_cond (fun h => ?_) (fun h => ?_)) <;> (try (exfalso; first | contradiction | omega | exact h Iff.rfl)) | (with_reducible refine sw_guard_split (fun h => ?_) (fun h => ?_)) <;> (try (exfalso; first | contradiction | omega | exact h Iff.rfl)) | (with_reducible refine sw_pick (fun h => ?_) (fun h => ?_)) <;> (try (exfalso; first | contradiction | omega | exact h Iff.rfl)) | fail)
        all_goals (refine sq_ret1 Tryd.results8 ?_)
        all_goals refine ⟨_, ⟨rfl, rfl⟩, ?_⟩
        all_goals (repeat' (first | with_reducible exact Ent.refl _ | with_reducible refine Ent.take_eq ?_ ?_ | rfl | with_reducible refine Ent.oR ?_ | with_reducible refine Ent.trans (oR.drop _ _ _) ?_ | with_reducible refine Ent.trans (Ent.drop _ _) ?_))
      | ok sc =>
        obtain ⟨co, acts⟩ := sc
        have hg := parse_good hp
        obtain ⟨cc, rfl⟩ : ∃ cc, co = some cc := parse_some hp
        obtain ⟨hc7, hcr⟩ := hg.c cc rfl
        obtain ⟨n0, n1, n2, n3, n4, n5, n6, rfl⟩ : ∃ n0 n1 n2 n3 n4 n5 n6, cc = [n0, n1, n2, n3, n4, n5, n6] := by
          match cc, hc7 with
          | [a, b, c, d, e, f, g], _ => exact ⟨a, b, c, d, e, f, g, rfl⟩
        have r0 := hcr n0 (by simp)
        have r1 := hcr n1 (by simp)
        have r2 := hcr n2 (by simp)
        have r3 := hcr n3 (by simp)
        have r4 := hcr n4 (by simp)
        have r5 := hcr n5 (by simp)
        have r6 := hcr n6 (by simp)
        have hgl := hg.l
        have hgs := hg.s
        simp only at hgl hgs
        have hsm : ∀ a ∈ acts, a.small := fun a ha => small_sz (hg.a a ha).1 (by have := sz_le ha; omega)
        obtain ⟨xs, hxs⟩ := linesS_of hg.a
        obtain ⟨b2, hb2⟩ : ∃ b2, printS [n0, n1, n2, n3, n4, n5, n6] acts = .ok b2 := by
          unfold printS; rw [hxs]; simp only; rw [if_neg (by omega)]; exact ⟨_, rfl⟩
        have hbl := print_len hb2 r0 r1 r2 r3 r4 r5 r6 hsm
        have hpp := parse_print hb2 r0 r1 r2 r3 r4 r5 r6 (fun a ha => (hg.a a ha).1)
        have hP1 := Parse_ok W hT 7051 text (by omega) hp
        have hP2 := Parse_ok W hT 7052 b2 (by omega) hpp
        have hPr := fun va r hA => sPrint_ok W hT 7051 r n0 n1 n2 n3 n4 n5 n6 r0 r1 r2 r3 r4 r5 r6 va acts hA hsm (by omega)
        rw [printV_ok hb2] at hPr
        have hSm := fun va va' r r' (h1 : RdAs r va acts) (h2 : RdAs r' va' acts) => Spec.two (sSame_ok 7053 (hall [(7051, r), (7052, r')]) n0 n1 n2 n3 n4 n5 n6 n0 n1 n2 n3 n4 n5 n6 va va' acts acts (RdAs.comb1 h1) (RdAs.comb2 h2) (by omega))
        rw [decide_eq_true rfl, decide_eq_true rfl] at hSm
        repeat' (first | with_reducible (first | refine go1 ?_ | refine sct ?_ | refine scf ?_ | refine sgr ?_) | ((with_reducible refine sw_callf hP1 ?_); rintro _ _ ⟨va1, ra1, hra1, hone1, rfl, rfl⟩) | ((with_reducible refine sw_callf (hPr va1 ra1 hra1) ?_); rintro _ _ ⟨rfl, rfl⟩) | ((with_reducible refine sw_callf hP2 ?_); rintro _ _ ⟨va2, ra2, hra2, hone2, rfl, rfl⟩) | ((with_reducible refine sw_callf (hSm va1 va2 ra1 ra2 hra1 hra2) ?_); rintro _ _ ⟨rfl, rfl⟩) | with_reducible refine sw_alloc fun b10 => ?_ | with_reducible refine sw_store_agg ?_ | with_reducible refine sw_guard_skip_u ?_ | (with_reducible refine sc_cond (fun h => ?_) (fun h => ?_)) <;> (try (exfalso; first | contradiction | omega | exact h Iff.rfl)) | (with_reducible refine sw_guard_split (fun h => ?_) (fun h => ?_)) <;> (try (exfalso; first | contradiction | omega | exact h Iff.rfl)) | (with_reducible refine sw_pick (fun h => ?_) (fun h => ?_)) <;> (try (exfalso; first | contradiction | omega | exact h Iff.rfl)) | fail)
        all_goals (refine sq_ret1 Tryd.results8 ?_)
        all_goals refine ⟨_, ⟨rfl, rfl⟩, ?_⟩
        all_goals (repeat' (first | with_reducible exact Ent.refl _ | with_reducible refine Ent.take_eq ?_ ?_ | rfl | with_reducible refine Ent.oR ?_ | with_reducible refine Ent.trans (oR.drop _ _ _) ?_ | with_reducible refine Ent.trans (Ent.drop _ _) ?_))
    · cases hp : parseS text with
      | error q =>
        obtain ⟨er, k⟩ := q
        have hPE := ParseE_ok W hT text (by omega) hp
        have her := parse_er hp
        have hkp := parse_pos hp
        repeat' (first | with_reducible (first | refine go1 ?_ | refine sct ?_ | refine scf ?_ | refine sgr ?_) | ((with_reducible refine sw_callf hPE ?_); rintro _ _ ⟨rfl, rfl⟩) | with_reducible refine sw_alloc fun b10 => ?_ | with_reducible refine sw_store_agg ?_ | with_reducible refine sw_guard_skip_u ?_ | (with_reducible refine sc_cond (fun h => ?_) (fun h => ?_)) <;> (try (exfalso; first | contradiction | omega | exact h Iff.rfl)) | (with_reducible refine sw_guard_split (fun h => ?_) (fun h => ?_)) <;> (try (exfalso; first | contradiction | omega | exact h Iff.rfl)) | (with_reducible refine sw_pick (fun h => ?_) (fun h => ?_)) <;> (try (exfalso; first | contradiction | omega | exact h Iff.rfl)) | fail)
        all_goals (refine sq_ret1 Tryd.results8 ?_)
        all_goals refine ⟨_, ⟨rfl, rfl⟩, ?_⟩
        all_goals (repeat' (first | with_reducible exact Ent.refl _ | with_reducible refine Ent.take_eq ?_ ?_ | rfl | with_reducible refine Ent.oR ?_ | with_reducible refine Ent.trans (oR.drop _ _ _) ?_ | with_reducible refine Ent.trans (Ent.drop _ _) ?_))
      | ok sc =>
        obtain ⟨co, acts⟩ := sc
        have hg := parse_good hp
        obtain ⟨cc, rfl⟩ : ∃ cc, co = some cc := parse_some hp
        obtain ⟨hc7, hcr⟩ := hg.c cc rfl
        obtain ⟨n0, n1, n2, n3, n4, n5, n6, rfl⟩ : ∃ n0 n1 n2 n3 n4 n5 n6, cc = [n0, n1, n2, n3, n4, n5, n6] := by
          match cc, hc7 with
          | [a, b, c, d, e, f, g], _ => exact ⟨a, b, c, d, e, f, g, rfl⟩
        have r0 := hcr n0 (by simp)
        have r1 := hcr n1 (by simp)
        have r2 := hcr n2 (by simp)
        have r3 := hcr n3 (by simp)
        have r4 := hcr n4 (by simp)
        have r5 := hcr n5 (by simp)
        have r6 := hcr n6 (by simp)
        have hgl := hg.l
        have hgs := hg.s
        simp only at hgl hgs
        have hsm : ∀ a ∈ acts, a.small := fun a ha => small_sz (hg.a a ha).1 (by have := sz_le ha; omega)
        obtain ⟨xs, hxs⟩ := linesS_of hg.a
        obtain ⟨b2, hb2⟩ : ∃ b2, printS [n0, n1, n2, n3, n4, n5, n6] acts = .ok b2 := by
          unfold printS; rw [hxs]; simp only; rw [if_neg (by omega)]; exact ⟨_, rfl⟩
        have hbl := print_len hb2 r0 r1 r2 r3 r4 r5 r6 hsm
        have hpp := parse_print hb2 r0 r1 r2 r3 r4 r5 r6 (fun a ha => (hg.a a ha).1)
        have hP1 := Parse_ok W hT 7051 text (by omega) hp
        have hP2 := Parse_ok W hT 7052 b2 (by omega) hpp
        have hPr := fun va r hA => sPrint_ok W hT 7051 r n0 n1 n2 n3 n4 n5 n6 r0 r1 r2 r3 r4 r5 r6 va acts hA hsm (by omega)
        rw [printV_ok hb2] at hPr
        have hSm := fun va va' r r' (h1 : RdAs r va acts) (h2 : RdAs r' va' acts) => Spec.two (sSame_ok 7053 (hall [(7051, r), (7052, r')]) n0 n1 n2 n3 n4 n5 n6 n0 n1 n2 n3 n4 n5 n6 va va' acts acts (RdAs.comb1 h1) (RdAs.comb2 h2) (by omega))
        rw [decide_eq_true rfl, decide_eq_true rfl] at hSm
        repeat' (first | with_reducible (first | refine go1 ?_ | refine sct ?_ | refine scf ?_ | refine sgr ?_) | ((with_reducible refine sw_callf hP1 ?_); rintro _ _ ⟨va1, ra1, hra1, hone1, rfl, rfl⟩) | ((with_reducible refine sw_callf (hPr va1 ra1 hra1) ?_); rintro _ _ ⟨rfl, rfl⟩) | ((with_reducible refine sw_callf hP2 ?_); rintro _ _ ⟨va2, ra2, hra2, hone2, rfl, rfl⟩) | ((with_reducible refine sw_callf (hSm va1 va2 ra1 ra2 hra1 hra2) ?_); rintro _ _ ⟨rfl, rfl⟩) | with_reducible refine sw_alloc fun b10 => ?_ | with_reducible refine sw_store_agg ?_ | with_reducible refine sw_guard_skip_u ?_ | (with_reducible refine sc_cond (fun h => ?_) (fun h => ?_)) <;> (try (exfalso; first | contradiction | omega | exact h Iff.rfl)) | (with_reducible refine sw_guard_split (fun h => ?_) (fun h => ?_)) <;> (try (exfalso; first | contradiction | omega | exact h Iff.rfl)) | (with_reducible refine sw_pick (fun h => ?_) (fun h => ?_)) <;> (try (exfalso; first | contradiction | omega | exact h Iff.rfl)) | fail)
        all_goals (refine sq_ret1 Tryd.results8 ?_)
        all_goals refine ⟨_, ⟨rfl, rfl⟩, ?_⟩
        all_goals (repeat' (first | with_reducible exact Ent.refl _ | with_reducible refine Ent.take_eq ?_ ?_ | rfl | with_reducible refine Ent.oR ?_ | with_reducible refine Ent.trans (oR.drop _ _ _) ?_ | with_reducible refine Ent.trans (Ent.drop _ _) ?_))
  | ok b =>
    rw [printV_ok hpr] at hPrint
    have hbl := print_len hpr h0 h1 h2 h3 h4 h5 h6 hs
    have hpp := parse_print hpr h0 h1 h2 h3 h4 h5 h6 (fun a ha => (hs a ha).1)
    have hP0 := Parse_ok W hT 7050 b (by omega) hpp
    have hS0 := fun va' r' (h2 : RdAs r' va' l) => Spec.two (sSame_ok 7060 (hall [(7040, ro W), (7050, r')]) c0 c1 c2 c3 c4 c5 c6 c0 c1 c2 c3 c4 c5 c6 va va' l l (RdAs.comb1 hA) (RdAs.comb2 h2) (by omega))
    rw [decide_eq_true rfl, decide_eq_true rfl] at hS0
    repeat' (first | with_reducible (first | refine go1 ?_ | refine sct ?_ | refine scf ?_ | refine sgr ?_) | with_reducible refine sw_box fun b2 => ?_ | ((with_reducible refine sw_callf hB ?_); rintro _ _ ⟨rfl, rfl⟩) | ((with_reducible refine sw_callf hPrint ?_); rintro _ _ ⟨rfl, rfl⟩) | ((with_reducible refine sw_callf hP0 ?_); rintro _ _ ⟨va0, ra0, hra0, hone0, rfl, rfl⟩) | ((with_reducible refine sw_callf (hS0 va0 ra0 hra0) ?_); rintro _ _ ⟨rfl, rfl⟩) | with_reducible refine sw_alloc fun b7 => ?_ | with_reducible refine sw_store_agg ?_ | with_reducible refine sw_guard_skip_u ?_ | (with_reducible refine sc_cond (fun h => ?_) (fun h => ?_)) <;> (try (exfalso; first | contradiction | omega | exact h Iff.rfl)) | (with_reducible refine sw_guard_split (fun h => ?_) (fun h => ?_)) <;> (try (exfalso; first | contradiction | omega | exact h Iff.rfl)) | (with_reducible refine sw_pick (fun h => ?_) (fun h => ?_)) <;> (try (exfalso; first | contradiction | omega | exact h Iff.rfl)) | fail)
    cases hp : parseS text with
    | error q =>
      obtain ⟨er, k⟩ := q
      have hPE := ParseE_ok W hT text (by omega) hp
      have her := parse_er hp
      have hkp := parse_pos hp
      repeat' (first | with_reducible (first | refine go1 ?_ | refine sct ?_ | refine scf ?_ | refine sgr ?_) | ((with_reducible refine sw_callf hPE ?_); rintro _ _ ⟨rfl, rfl⟩) | with_reducible refine sw_alloc fun b10 => ?_ | with_reducible refine sw_store_agg ?_ | with_reducible refine sw_guard_skip_u ?_ | (with_reducible refine sc_cond (fun h => ?_) (fun h => ?_)) <;> (try (exfalso; first | contradiction | omega | exact h Iff.rfl)) | (with_reducible refine sw_guard_split (fun h => ?_) (fun h => ?_)) <;> (try (exfalso; first | contradiction | omega | exact h Iff.rfl)) | (with_reducible refine sw_pick (fun h => ?_) (fun h => ?_)) <;> (try (exfalso; first | contradiction | omega | exact h Iff.rfl)) | fail)
      all_goals (refine sq_ret1 Tryd.results8 ?_)
      all_goals refine ⟨_, ⟨rfl, rfl⟩, ?_⟩
      all_goals (repeat' (first | with_reducible exact Ent.refl _ | with_reducible refine Ent.take_eq ?_ ?_ | rfl | with_reducible refine Ent.oR ?_ | with_reducible refine Ent.trans (oR.drop _ _ _) ?_ | with_reducible refine Ent.trans (Ent.drop _ _) ?_))
    | ok sc =>
      obtain ⟨co, acts⟩ := sc
      have hg := parse_good hp
      obtain ⟨cc, rfl⟩ : ∃ cc, co = some cc := parse_some hp
      obtain ⟨hc7, hcr⟩ := hg.c cc rfl
      obtain ⟨n0, n1, n2, n3, n4, n5, n6, rfl⟩ : ∃ n0 n1 n2 n3 n4 n5 n6, cc = [n0, n1, n2, n3, n4, n5, n6] := by
        match cc, hc7 with
        | [a, b, c, d, e, f, g], _ => exact ⟨a, b, c, d, e, f, g, rfl⟩
      have r0 := hcr n0 (by simp)
      have r1 := hcr n1 (by simp)
      have r2 := hcr n2 (by simp)
      have r3 := hcr n3 (by simp)
      have r4 := hcr n4 (by simp)
      have r5 := hcr n5 (by simp)
      have r6 := hcr n6 (by simp)
      have hgl := hg.l
      have hgs := hg.s
      simp only at hgl hgs
      have hsm : ∀ a ∈ acts, a.small := fun a ha => small_sz (hg.a a ha).1 (by have := sz_le ha; omega)
      obtain ⟨xs, hxs⟩ := linesS_of hg.a
      obtain ⟨b2, hb2⟩ : ∃ b2, printS [n0, n1, n2, n3, n4, n5, n6] acts = .ok b2 := by
        unfold printS; rw [hxs]; simp only; rw [if_neg (by omega)]; exact ⟨_, rfl⟩
      have hbl := print_len hb2 r0 r1 r2 r3 r4 r5 r6 hsm
      have hpp := parse_print hb2 r0 r1 r2 r3 r4 r5 r6 (fun a ha => (hg.a a ha).1)
      have hP1 := Parse_ok W hT 7051 text (by omega) hp
      have hP2 := Parse_ok W hT 7052 b2 (by omega) hpp
      have hPr := fun va r hA => sPrint_ok W hT 7051 r n0 n1 n2 n3 n4 n5 n6 r0 r1 r2 r3 r4 r5 r6 va acts hA hsm (by omega)
      rw [printV_ok hb2] at hPr
      have hSm := fun va va' r r' (h1 : RdAs r va acts) (h2 : RdAs r' va' acts) => Spec.two (sSame_ok 7053 (hall [(7051, r), (7052, r')]) n0 n1 n2 n3 n4 n5 n6 n0 n1 n2 n3 n4 n5 n6 va va' acts acts (RdAs.comb1 h1) (RdAs.comb2 h2) (by omega))
      rw [decide_eq_true rfl, decide_eq_true rfl] at hSm
      repeat' (first | with_reducible (first | refine go1 ?_ | refine sct ?_ | refine scf ?_ | refine sgr ?_) | ((with_reducible refine sw_callf hP1 ?_); rintro _ _ ⟨va1, ra1, hra1, hone1, rfl, rfl⟩) | ((with_reducible refine sw_callf (hPr va1 ra1 hra1) ?_); rintro _ _ ⟨rfl, rfl⟩) | ((with_reducible refine sw_callf hP2 ?_); rintro _ _ ⟨va2, ra2, hra2, hone2, rfl, rfl⟩) | ((with_reducible refine sw_callf (hSm va1 va2 ra1 ra2 hra1 hra2) ?_); rintro _ _ ⟨rfl, rfl⟩) | with_reducible refine sw_alloc fun b10 => ?_ | with_reducible refine sw_store_agg ?_ | with_reducible refine sw_guard_skip_u ?_ | (with_reducible refine sc_cond (fun h => ?_) (fun h => ?_)) <;> (try (exfalso; first | contradiction | omega | exact h Iff.rfl)) | (with_reducible refine sw_guard_split (fun h => ?_) (fun h => ?_)) <;> (try (exfalso; first | contradiction | omega | exact h Iff.rfl)) | (with_reducible refine sw_pick (fun h => ?_) (fun h => ?_)) <;> (try (exfalso; first | contradiction | omega | exact h Iff.rfl)) | fail)
      all_goals (refine sq_ret1 Tryd.results8 ?_)
      all_goals refine ⟨_, ⟨rfl, rfl⟩, ?_⟩
      all_goals (repeat' (first | with_reducible exact Ent.refl _ | with_reducible refine Ent.take_eq ?_ ?_ | rfl | with_reducible refine Ent.oR ?_ | with_reducible refine Ent.trans (oR.drop _ _ _) ?_ | with_reducible refine Ent.trans (Ent.drop _ _) ?_))
end Go.Gsl
