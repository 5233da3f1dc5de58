/- Two checkpoints on a disk: the one that is done stays (plain Lean). -/
import Derived.Test.YtlofcljlmfnhbaaGT
namespace Go.Gsl
set_option linter.unusedVariables false
open Go.Proofs

/-- the first sectors are as they were, and sure -/
structure KSt (s0 s : Dk) : Prop where
  len : s.sure.length = 60
  dat : ∀ j, (s.dirty j).isSome = true → 0 ≤ j
  k : ∀ j : Nat, j < 24 → s.dirty j = none ∧ s.sure[j]? = s0.sure[j]?
theorem KSt.now {s0 s : Dk} (h : KSt s0 s) {j : Int} (h0 : 0 ≤ j) (h1 : j < 24) : s.now j = (s0.sure[j.toNat]?).getD [] := by
  obtain ⟨i, rfl⟩ : ∃ i : Nat, j = i := ⟨j.toNat, by omega⟩
  obtain ⟨h2, h3⟩ := h.k i (by omega)
  rw [Dk.now_sure h2, Int.toNat_natCast, h3]
theorem KSt.wrote {s0 s : Dk} (h : KSt s0 s) {a : Int} (ha : 24 ≤ a) (x : List Int) : KSt s0 (s.wrote a x) where
  len := h.len
  dat j hj := by
    by_cases h1 : j = a
    · omega
    · have : (s.wrote a x).dirty j = s.dirty j := if_neg h1
      rw [this] at hj
      exact h.dat j hj
  k j hj := by
    have : (s.wrote a x).dirty (j : Int) = s.dirty j := if_neg (by omega)
    rw [this]
    exact h.k j hj
theorem KSt.gone {s0 s : Dk} (h : KSt s0 s) {ks : List Int} {bs : List Bool} (hk : KeysD s.dirty ks) : KSt s0 (s.gone ks bs) where
  len := by rw [Dk.gone_len]; exact h.len
  dat j hj := by cases hj
  k j hj := by
    refine ⟨rfl, ?_⟩
    show (goS s.dirty ks bs s.sure)[j]? = _
    rw [goS_not _ _ _ _ _ fun i hi => ?_]
    · exact (h.k j hj).2
    · intro he
      have h1 := (hk.mem i).1 hi
      have h2 := h.dat i h1
      have h3 : i = (j : Int) := by omega
      rw [h3, (h.k j hj).1] at h1
      cases h1
theorem KSt.met {s0 s : Dk} (h : KSt s0 s) : KSt s0 s.met := ⟨h.len, h.dat, h.k⟩
theorem KSt.barred {s0 s : Dk} (h : KSt s0 s) : KSt s0 s.barred where
  len := by rw [Dk.barred_len]; exact h.len
  dat j hj := by cases hj
  k j hj := by
    refine ⟨rfl, ?_⟩
    have h1 : j < s.sure.length := by rw [h.len]; omega
    have h2 : s.barred.sure[j]? = some ((s.dirty (j : Int)).getD s.sure[j]) := by
      show (mergeS s.dirty s.sure)[j]? = _
      unfold mergeS
      rw [List.getElem?_mapIdx, List.getElem?_eq_getElem h1]
      rfl
    rw [h2, (h.k j hj).1, ← (h.k j hj).2, List.getElem?_eq_getElem h1]
    rfl
theorem KSt.up {s0 s : Dk} (h : KSt s0 s) : KSt s0 s.up := ⟨h.len, h.dat, h.k⟩
theorem WrT_keep {s0 : Dk} : ∀ {xs : List (List Int)} {a : Int} {s s' : Dk} {e : Int}, WrT xs a s s' e → KSt s0 s → 24 ≤ a → KSt s0 s'
  | [], _, _, _, _, h, hk, _ => by rw [h.1]; exact hk
  | x :: xs, a, s, s', e, h, hk, ha => by
    rcases h with ⟨_, h, _⟩ | ⟨_, _, h⟩ | ⟨_, _, _, ks, hks, rfl⟩
    · rw [h]; exact hk
    · exact WrT_keep h (hk.wrote ha x) (by omega)
    · exact (hk.wrote ha x).gone hks
theorem WrT_any : ∀ {xs : List (List Int)} {a : Int} {s s' : Dk} {e : Int}, WrT xs a s s' e → 0 ≤ a → a + xs.length ≤ s.sure.length → e = 0 ∨ e = 6
  | [], _, _, _, _, h, _, _ => .inl h.2
  | x :: xs, a, s, s', e, h, h0, h1 => by
    rw [List.length_cons] at h1
    rcases h with ⟨h2, _, h3⟩ | ⟨_, _, h⟩ | ⟨_, _, h, _⟩
    · have := Dk.looks_in (s := s) h0 (by omega)
      rw [this] at h2 h3
      cases hd : s.down with
      | true => rw [hd] at h3; exact .inr h3
      | false => rw [hd] at h2; exact absurd rfl h2
    · exact WrT_any h (by omega) (by show _ ≤ (s.sure.length : Int); omega)
    · exact .inr h
theorem CkW_keep {s0 s s' : Dk} {f c : Int} {ck : Ck} {e : Int} (h : CkW s f c ck s' e) (hk : KSt s0 s) (hf : 24 ≤ f) : KSt s0 s' := by
  rcases h with ⟨_, _, h⟩ | ⟨_, _, _, h⟩ | ⟨_, _, _, _, h⟩ | ⟨_, hc, _, h⟩
  · rw [h]; exact hk
  · rw [h]; exact hk
  · rw [h]; exact hk
  · have := (Ck.chk_ok hc).1
    exact WrT_keep h hk (by omega)
theorem PutR_keep {s0 : Dk} {f c : Int} (hf : 24 ≤ f) : ∀ {L : List Sp} {n : Int} {s : Dk} {L' : List Sp} {n' : Int} {s' : Dk} {e : Int}, PutR f c L n s L' n' s' e → KSt s0 s → KSt s0 s' := by
  intro L n s L' n' s' e h
  induction h with
  | stop _ => exact id
  | bad _ hw _ => exact fun hk => CkW_keep hw hk hf
  | turn _ hw _ ih => exact fun hk => ih (CkW_keep hw hk hf)
theorem BarC_keep {s0 s s' : Dk} {e : Int} (h : BarC s s' e) (hk : KSt s0 s) : KSt s0 s' := by
  rcases h with ⟨_, _, h⟩ | ⟨_, _, _, h⟩ | ⟨_, _, _, ks, hks, h⟩
  · rw [h]; exact hk
  · rw [h]; exact hk.barred
  · rw [h]; exact hk.met.gone hks
theorem DoneR_keep {s0 : Dk} {f c : Int} (hf : 24 ≤ f) {l : List Sp} {n : Int} {s : Dk} {L : List Sp} {n' : Int} {d : Bool} {s' : Dk} {a e : Int} (h : DoneR f c l n s L n' d s' a e) (hk : KSt s0 s) : KSt s0 s' := by
  rcases h with ⟨hw, _⟩ | ⟨s1, hw, hb, _⟩
  · exact CkW_keep hw hk hf
  · exact BarC_keep hb (CkW_keep hw hk hf)

/-- one chunk more, whatever happens -/
theorem CkW_any {s s' : Dk} {f c : Int} {l : List Sp} {i : Nat} {e : Int} (hr : Rise l) (hi : (i : Int) < c) (h : CkW s f c (ckAt l i) s' e) (ha : areaE f c s.sure.length = 0) : (e = 0 ∧ s'.sure.length = s.sure.length ∧ s'.now = ov (f + (i : Int) * 12) (ckAt l i).secs s.now) ∨ e = 6 := by
  have ha2 : 0 ≤ f ∧ 1 ≤ c ∧ c ≤ 4096 ∧ c * 12 ≤ s.sure.length - f := by unfold areaE at ha; split at ha <;> omega
  have hc := ckAt_chk hr (i := i) (by omega)
  have hs := ckAt_secs hr (i := i) (by omega)
  have hnum : (ckAt l i).num = i := rfl
  rcases h with ⟨h, _⟩ | ⟨_, h, _⟩ | ⟨_, _, h, _⟩ | ⟨_, _, _, h⟩
  · exact absurd ha h
  · exact absurd hc h
  · rw [hnum] at h; omega
  · rw [hnum] at h
    rcases WrT_any h (by omega) (by omega) with he | he
    · subst he
      obtain ⟨h1, _, _, h4⟩ := WrT_zero h
      exact .inl ⟨rfl, by rw [h1], h4⟩
    · exact .inr he
theorem PutR_any {f c : Int} {l : List Sp} {g : Int → List Int} (hr : Rise l) (hc : (nCk l : Int) ≤ c) : ∀ {L : List Sp} {n : Int} {s : Dk} {L' : List Sp} {n' : Int} {s' : Dk} {e : Int}, PutR f c L n s L' n' s' e →
    ∀ m : Nat, m ≤ wN l → n = m → L = l.drop (16 * m) → areaE f c s.sure.length = 0 → s.now = img f l m g →
    (e = 0 ∧ L' = wRest l ∧ n' = wN l ∧ s'.sure.length = s.sure.length ∧ s'.now = img f l (wN l) g) ∨ (e ≠ 0 ∧ ∃ m' : Nat, m' ≤ wN l ∧ L' = l.drop (16 * m') ∧ n' = m' ∧ 16 < L'.length) := by
  intro L n s L' n' s' e h
  induction h with
  | stop h =>
    intro m hm hn hL ha hg
    subst hL
    obtain ⟨h1, h2⟩ := put_end hm (by omega)
    subst h1
    exact .inl ⟨rfl, h2, hn, rfl, hg⟩
  | bad h hw he =>
    intro m hm hn hL ha hg
    exact .inr ⟨he, m, hm, hL, hn, h⟩
  | turn h hw _ ih =>
    intro m hm hn hL ha hg
    subst hL hn
    obtain ⟨h1, h2, h3⟩ := put_turn h
    rw [← h2] at hw
    have hnc : nCk l = wN l + 1 := rfl
    rcases CkW_any hr (by omega) hw ha with ⟨_, h4, h6⟩ | h4
    · have := ih (m + 1) (by omega) (by omega) h3 (by rw [h4]; exact ha) (by rw [h6, hg]; rfl)
      rw [h4] at this
      exact this
    · cases h4
theorem BarC_any {s s' : Dk} {e : Int} (h : BarC s s' e) (hn : 1 ≤ s.sure.length) : (e = 0 ∧ s' = s.barred ∧ s.down = false) ∨ e = 6 := by
  rcases h with ⟨h, h2, _⟩ | ⟨h, _, h1, h2⟩ | ⟨_, _, h, _⟩
  · have := Dk.looks_in (s := s) (a := 0) (by omega) (by omega)
    rw [this] at h h2
    cases hd : s.down with
    | true => rw [hd] at h2; exact .inr h2
    | false => rw [hd] at h; exact absurd rfl h
  · exact .inl ⟨h1, h2, (Dk.looks_zero h).1⟩
  · exact .inr h
/-- Done, whatever happens, behind a Put that came to its end -/
theorem DoneR_any {f c : Int} {l : List Sp} {g : Int → List Int} (hr : Rise l) (hc : (nCk l : Int) ≤ c) {s : Dk} {L : List Sp} {n' : Int} {d : Bool} {s' : Dk} {a e : Int} (h : DoneR f c (wRest l) (wN l) s L n' d s' a e) (ha : areaE f c s.sure.length = 0) (hg : s.now = img f l (wN l) g) :
    (e = 0 ∧ a = nCk l ∧ s'.down = false ∧ ∀ j : Int, 0 ≤ j → j < s.sure.length → s'.now j = img f l (nCk l) g j) ∨ e = 6 := by
  have ha2 : 0 ≤ f ∧ 1 ≤ c ∧ c ≤ 4096 ∧ c * 12 ≤ s.sure.length - f := by unfold areaE at ha; split at ha <;> omega
  obtain ⟨h1, h2⟩ := done_ck l
  unfold DoneR at h
  rw [← h1] at h
  rcases h with ⟨hw, he, _⟩ | ⟨s1, hw, hb, hL, hn', h⟩
  · rcases CkW_any hr (by omega) hw ha with ⟨h4, _⟩ | h4
    · exact absurd h4 he
    · exact .inr h4
  · rcases CkW_any hr (by omega) hw ha with ⟨_, h4, h6⟩ | h4
    · rcases BarC_any hb (by omega) with ⟨h7, h8, h9⟩ | h7
      · subst h7 h8
        rcases h with ⟨h, _⟩ | ⟨_, _, h11⟩
        · exact absurd rfl h
        · refine .inl ⟨rfl, by rw [h11, h2]; omega, h9, fun j h0 h12 => ?_⟩
          rw [Dk.barred_now2 h0 (by rw [h4]; exact h12), h6, hg, h2]
          rfl
      · exact .inr h7
    · cases h4
/-- Done, behind a Put that broke off -/
theorem DoneR_bad {f c : Int} {l : List Sp} {n : Int} {s : Dk} {L : List Sp} {n' : Int} {d : Bool} {s' : Dk} {a e : Int} (h : DoneR f c l n s L n' d s' a e) (ha : areaE f c s.sure.length = 0) (hl : 16 < l.length) : e = 32 := by
  have hc : (⟨n, true, l⟩ : Ck).chk = 32 := by unfold Ck.chk; rw [if_pos (by simp only; omega)]
  rcases h with ⟨hw, _⟩ | ⟨s1, hw, _⟩
  · rcases hw with ⟨h, _⟩ | ⟨_, _, h, _⟩ | ⟨_, h, _⟩ | ⟨_, h, _⟩
    · exact absurd ha h
    · rw [h, hc]
    · rw [hc] at h; cases h
    · rw [hc] at h; cases h
  · have := hw.zero.2.1
    rw [hc] at this
    cases this
end Go.Gsl
