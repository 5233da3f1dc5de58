/- ScriptBack's own function. -/
import Derived.Test.YtjfieigjicbldaaDoorGVF
import Derived.Test.YtjfieigjicbldaaDoorGNC
namespace Go.Gsl
set_option linter.unusedVariables false
open Go.Proofs

/-- what parse answers, all rows in one -/
def parseL (k : Nat) (l : List AK) (o : Option (Nat × Nat × List Value)) : List Res := [(7011, KP l), (7012, hall (oR (nG 46 (akC l)) [] o))]
/-- Parse, read: all that a script keeps under one key -/
theorem Parse_ok (W : World) (hT : Tabs Tryd.prog W) (K : Nat) (s : Bs) (hs : s.length ≤ 1073741824) {c0 c1 c2 c3 c4 c5 c6 : Int} {acts : List Act} (h : parseS s = .ok ⟨some [c0, c1, c2, c3, c4, c5, c6], acts⟩) :
    Spec Tryd.prog 9 [.string (sB s)] [0] [ro W] fun F v Rs' => ∃ va r, RdAs r va acts ∧ One va ∧ v = .tuple #[.agg ([.int .i64 c0, .int .i64 c1, .int .i64 c2, .int .i64 c3, .int .i64 c4, .int .i64 c5, .int .i64 c6, va] : List Value).toArray, .int .i64 0, .int .i64 0] ∧ Rs' = (0, ro W) :: (K, r) :: F := by
  intro w0 F w hw
  refine Calls.mono (sParse_ok W hT s hs w0 F w hw) ?_
  rintro e w' ⟨v, Rs', rfl, (⟨c, l, o, hp, hN, hl, hA, rfl, rfl⟩ | ⟨er, k, hp, _⟩), hw'⟩
  · rw [h] at hp
    simp only [Except.ok.injEq, Scr.mk.injEq, Option.some.injEq] at hp
    obtain ⟨rfl, rfl⟩ := hp
    obtain ⟨_, hak⟩ := parse_ok h hs
    refine ⟨_, _, rfl, ⟨nV l.length o, hall (parseL K l o), RdAs.of_ak (k1 := 7011) (k2 := 7012) hA hN (fun p hp => hak p.1 (List.mem_map_of_mem hp)) (by simp [parseL]) (by simp [parseL]), inferInstance, rfl, rfl⟩, ?_⟩
    exact hw'.ent (Ent.cons _ (Ent.hall_close K (parseL K l o) F))
  · rw [h] at hp; cases hp
theorem ParseE_ok (W : World) (hT : Tabs Tryd.prog W) (s : Bs) (hs : s.length ≤ 1073741824) {er k : Int} (h : parseS s = .error (er, k)) :
    Spec Tryd.prog 9 [.string (sB s)] [0] [ro W] fun F v Rs' => v = .tuple #[.agg zS.toArray, .int .i64 k, .int .i64 er] ∧ Rs' = (0, ro W) :: F := by
  refine (sParse_ok W hT s hs).mono ?_
  rintro F v Rs' (⟨c, l, o, hp, _⟩ | ⟨er', k', hp, rfl, rfl⟩)
  · rw [h] at hp; cases hp
  · rw [h] at hp
    simp only [Except.error.injEq, Prod.mk.injEq] at hp
    obtain ⟨rfl, rfl⟩ := hp
    exact ⟨rfl, rfl⟩
theorem parse_er {s : Bs} {er k : Int} (h : parseS s = .error (er, k)) : er ≠ 0 := by
  have hf : ∀ l e, fitsOf l = .error e → e ≠ 0 := by
    intro l e h
    unfold fitsOf at h
    cases l with
    | nil => simp only [Except.error.injEq] at h; omega
    | cons w ws =>
      simp only at h
      cases hf : formOf w.s with
      | none => rw [hf] at h; simp only [Except.error.injEq] at h; omega
      | some cs =>
        rw [hf] at h
        simp only at h
        split at h
        · simp only [Except.error.injEq] at h; omega
        · cases ha : addVals ⟨[], [], []⟩ cs ws with
          | none => rw [ha] at h; simp only [Except.error.injEq] at h; omega
          | some f => rw [ha] at h; cases h
  have ht : ∀ r s e, takeS r s = .error e → e ≠ 0 := by
    intro r s e h
    cases hw : wordsL s with
    | none => rw [take_none hw] at h; simp only [Except.error.injEq] at h; omega
    | some l =>
      cases l with
      | nil => rw [take_nil hw] at h; cases h
      | cons w ws =>
        rw [take_cons hw] at h
        split at h
        · simp only [Except.error.injEq] at h; omega
        · split at h
          · simp only [Except.error.injEq] at h; omega
          · cases hff : fitsOf (w :: ws) with
            | error e' => rw [hff] at h; simp only [Except.error.injEq] at h; rw [← h]; exact hf _ _ hff
            | ok f =>
              rw [hff] at h
              simp only at h
              split at h
              · cases h
              · split at h
                · simp only [Except.error.injEq] at h; omega
                · cases h
  have key : ∀ (f : Nat) (r : Scr) (k er n : Int) (s : Bs), parseF f r k s = .error (er, n) → er ≠ 0 := by
    intro f
    induction f with
    | zero => intro r k er n s h; cases h
    | succ f ih =>
      intro r k er n s h
      rw [parseF] at h
      by_cases h0 : s = []
      · rw [if_pos h0] at h; cases h
      · rw [if_neg h0] at h
        cases htk : takeS r (cutW 10 s) with
        | error e => rw [htk] at h; simp only [Except.error.injEq, Prod.mk.injEq] at h; rw [← h.1]; exact ht _ _ _ htk
        | ok r1 => rw [htk] at h; exact ih r1 (k + 1) er n _ h
  unfold parseS at h
  cases hp : parseF (s.length + 1) ⟨none, []⟩ 0 s with
  | error q =>
    rw [hp] at h
    simp only [Except.error.injEq] at h
    subst h
    exact key _ _ _ _ _ _ hp
  | ok q =>
    obtain ⟨r1, m⟩ := q
    rw [hp] at h
    simp only at h
    split at h
    · simp only [Except.error.injEq, Prod.mk.injEq] at h; omega
    · cases h
theorem RdAs.comb1 {k1 k2 : Nat} {r1 r2 : HProp} {v : Value} {l : List Act} (h : RdAs r1 v l) : RdAs (hall [(k1, r1), (k2, r2)]) v l := by
  obtain ⟨a, c, av, hv, hm, ha, hr, hk, hl⟩ := h
  have key : ∀ {a : Option Addr} {xs : List Value}, Reads r1 a xs → Reads (hall [(k1, r1), (k2, r2)]) a xs := fun h => reads_hall (k := k1) (by simp) h
  exact ⟨a, c, av, hv, hm, ha, key hr, fun p hp => by obtain ⟨b, d, h1, h2, h3⟩ := hk p hp; exact ⟨b, d, h1, h2, key h3⟩, hl⟩
theorem RdAs.comb2 {k1 k2 : Nat} {r1 r2 : HProp} {v : Value} {l : List Act} (h : RdAs r2 v l) : RdAs (hall [(k1, r1), (k2, r2)]) v l := by
  obtain ⟨a, c, av, hv, hm, ha, hr, hk, hl⟩ := h
  have key : ∀ {a : Option Addr} {xs : List Value}, Reads r2 a xs → Reads (hall [(k1, r1), (k2, r2)]) a xs := fun h => reads_hall (k := k2) (by simp) h
  exact ⟨a, c, av, hv, hm, ha, key hr, fun p hp => by obtain ⟨b, d, h1, h2, h3⟩ := hk p hp; exact ⟨b, d, h1, h2, key h3⟩, hl⟩
end Go.Gsl
