/- Scripts: an act's line (plain Lean). -/
import Derived.Test.YtjfieigjicbldaaDoorGNB
import Derived.Lib.Join
import Derived.Lib.ItoaLen
namespace Go.Gsl
set_option linter.unusedVariables false

def tokT (w : Tok) : Bs := if w.t then quoteS w.s else w.s
def plainW (s : Bs) : Prop := s ≠ [] ∧ (∀ c ∈ s, c ≠ 32) ∧ s.head? ≠ some 35 ∧ s.head? ≠ some 34
instance (s : Bs) : Decidable (plainW s) := inferInstanceAs (Decidable (_ ∧ _))
def wordOk (w : Tok) : Prop := w.t = true ∨ plainW w.s
def lineT (l : List Tok) : Bs := Lib.join (l.map tokT) [32]

theorem dig_back : ∀ k : Fin 16, Lib.indexByte digs (digAt (k.val : Int)) = (k.val : Int) := by decide +kernel
theorem hex_back (c : UInt8) : UInt8.ofNat (16 * (Lib.indexByte digs (digAt (iv c / 16))).toNat + (Lib.indexByte digs (digAt (iv c % 16))).toNat) = c := by
  have h := iv_lt c
  have h1 := dig_back ⟨(iv c / 16).toNat, by omega⟩
  have h2 := dig_back ⟨(iv c % 16).toNat, by omega⟩
  simp only at h1 h2
  rw [show (((iv c / 16).toNat : Nat) : Int) = iv c / 16 by omega] at h1
  rw [show (((iv c % 16).toNat : Nat) : Int) = iv c % 16 by omega] at h2
  rw [h1, h2, show 16 * (iv c / 16).toNat + (iv c % 16).toNat = (iv c).toNat by omega]
  exact ofNat_iv c
theorem hex_pos (c : UInt8) : ¬ (Lib.indexByte digs (digAt (iv c / 16)) < 0 ∨ Lib.indexByte digs (digAt (iv c % 16)) < 0) := by
  have h := iv_lt c
  have h1 := dig_back ⟨(iv c / 16).toNat, by omega⟩
  have h2 := dig_back ⟨(iv c % 16).toNat, by omega⟩
  simp only at h1 h2
  rw [show (((iv c / 16).toNat : Nat) : Int) = iv c / 16 by omega] at h1
  rw [show (((iv c % 16).toNat : Nat) : Int) = iv c % 16 by omega] at h2
  omega
theorem unq_app (rest : Bs) (hr : rest = [] ∨ rest.head? = some 32) : ∀ (s acc : Bs), unq acc (s.flatMap quoteC ++ 34 :: rest) = some (acc ++ s, rest)
  | [], acc => by
    rw [List.flatMap_nil, List.nil_append, unq_cons, if_pos (show iv 34 = 34 from rfl), if_pos hr, List.append_nil]
  | b :: s, acc => by
    rw [List.flatMap_cons, List.append_assoc]
    have ih := fun acc => unq_app rest hr s acc
    generalize s.flatMap quoteC ++ 34 :: rest = X at ih ⊢
    unfold quoteC
    by_cases h1 : iv b = 34 ∨ iv b = 92
    · rw [if_pos h1]
      show unq acc (92 :: b :: X) = _
      rw [unq_cons, if_neg (by decide), if_neg (by decide)]
      simp only
      rw [if_pos h1, ih]
      simp
    · rw [if_neg h1]
      by_cases h2 : iv b < 32 ∨ 126 < iv b
      · rw [if_pos h2]
        show unq acc (92 :: 120 :: digAt (iv b / 16) :: digAt (iv b % 16) :: X) = _
        rw [unq_cons, if_neg (by decide), if_neg (by decide)]
        simp only
        rw [if_neg (by decide), if_pos (by rfl), if_neg (hex_pos b), hex_back, ih]
        simp
      · rw [if_neg h2]
        show unq acc (b :: X) = _
        rw [unq_cons, if_neg (fun g => h1 (.inl g)), if_pos (fun g => h1 (.inr g)), ih]
        simp
theorem ws_quote (s rest : Bs) (hr : rest = [] ∨ rest.head? = some 32) : wordsL (quoteS s ++ rest) = (wordsL rest).map (⟨s, true⟩ :: ·) := by
  have h : quoteS s ++ rest = 34 :: (s.flatMap quoteC ++ 34 :: rest) := by unfold quoteS; simp
  rw [h, ws_txt, unq_app rest hr]; rfl
theorem ws_plain (s rest : Bs) (hs : plainW s) (hr : rest = [] ∨ rest.head? = some 32) : wordsL (s ++ rest) = (wordsL rest).map (⟨s, false⟩ :: ·) := by
  obtain ⟨h0, h1, h2, h3⟩ := hs
  have app : ∀ (a b : Bs), a.all (· != 32) = true → (a ++ b).dropWhile (· != 32) = b.dropWhile (· != 32) ∧ (a ++ b).takeWhile (· != 32) = a ++ b.takeWhile (· != 32) := by
    intro a b
    induction a with
    | nil => exact fun _ => ⟨rfl, rfl⟩
    | cons x a ih =>
      intro h
      rw [List.all_cons, Bool.and_eq_true] at h
      have ih := ih h.2
      rw [List.cons_append, List.dropWhile_cons, if_pos h.1, List.takeWhile_cons, if_pos h.1, ih.2]
      exact ⟨ih.1, rfl⟩
  have hall : s.all (· != 32) = true := List.all_eq_true.2 fun c hc => by simpa using h1 c hc
  have hd := app s rest hall
  have hrd : rest.dropWhile (· != 32) = rest ∧ rest.takeWhile (· != 32) = [] := by
    cases rest with
    | nil => exact ⟨rfl, rfl⟩
    | cons a r =>
      have : a = 32 := by simpa using hr
      subst this
      exact ⟨rfl, rfl⟩
  rw [hrd.1, hrd.2, List.append_nil] at hd
  cases s with
  | nil => exact absurd rfl h0
  | cons c r =>
    have hc1 : c ≠ 32 := h1 c (by simp)
    have hc2 : c ≠ 35 := by simpa using h2
    have hc3 : c ≠ 34 := by simpa using h3
    have := ws_word (c := c) (r := r ++ rest) (fun g => hc1 (iv_inj g)) (fun g => hc2 (iv_inj g)) (fun g => hc3 (iv_inj g))
    rw [List.cons_append] at hd ⊢
    rw [this, hd.1]
    unfold cutW
    rw [hd.2]
theorem ws_tok (w : Tok) (rest : Bs) (hw : wordOk w) (hr : rest = [] ∨ rest.head? = some 32) : wordsL (tokT w ++ rest) = (wordsL rest).map (w :: ·) := by
  obtain ⟨s, t⟩ := w
  cases t with
  | true => exact ws_quote s rest hr
  | false =>
    rcases hw with h | h
    · cases h
    · exact ws_plain s rest h hr
theorem lineT_cons (w v : Tok) (l : List Tok) : lineT (w :: v :: l) = tokT w ++ 32 :: lineT (v :: l) := by
  unfold lineT; simp [Lib.join, List.intercalate]
theorem words_line : ∀ l : List Tok, (∀ w ∈ l, wordOk w) → wordsL (lineT l) = some l
  | [], _ => ws_end
  | [w], h => by
    have h1 : lineT [w] = tokT w ++ [] := by unfold lineT; simp [Lib.join_one]
    rw [h1, ws_tok w [] (h w (by simp)) (.inl rfl), ws_end]; rfl
  | w :: v :: l, h => by
    have ih := words_line (v :: l) (fun x hx => h x (by simp [hx]))
    rw [lineT_cons, ws_tok w _ (h w (by simp)) (.inr rfl), ws_sp, ih]; rfl

/-! ### numbers and keeps as words -/
theorem digR_all : ∀ (l : Bs) (acc u : Nat), digR acc l = some u → ∀ c ∈ l, 48 ≤ iv c ∧ iv c ≤ 57
  | [], _, _, _, c, hc => by cases hc
  | x :: l, acc, u, h, c, hc => by
    rw [digR_cons] at h
    split at h
    · rename_i hx
      rcases List.mem_cons.1 hc with rfl | hc
      · exact hx
      · exact digR_all l _ u h c hc
    · cases h
theorem plain_dec (u : Nat) : plainW (Lib.decDigits u) := by
  have hd := digR_all _ _ _ (digR_dec u)
  have hn := dec_ne u
  refine ⟨hn, fun c hc g => ?_, fun g => ?_, fun g => ?_⟩
  · have := hd c hc; rw [g] at this; exact absurd this (by decide)
  · have := hd 35 (List.mem_of_mem_head? g); exact absurd this (by decide)
  · have := hd 34 (List.mem_of_mem_head? g); exact absurd this (by decide)
theorem plain_itoa (k : Int) : plainW (Lib.itoa k) := by
  unfold Lib.itoa
  split
  · have hd := digR_all _ _ _ (digR_dec k.natAbs)
    refine ⟨by simp, fun c hc g => ?_, by simp, by simp⟩
    rcases List.mem_cons.1 hc with rfl | hc
    · exact absurd g (by decide)
    · have := hd c hc; rw [g] at this; exact absurd this (by decide)
  · exact plain_dec _
theorem numOf_itoa {k : Int} (hb : -9223372036854775808 ≤ k ∧ k ≤ 9223372036854775807) : numOf (Lib.itoa k) = some k := by rw [← numR_eq]; exact numR_itoa k hb
def kTxt (k : List Bool) : Bs := if k = [] then [45] else k.map fun b => if b then 49 else 48
theorem plain_k (k : List Bool) : plainW (kTxt k) := by
  unfold kTxt
  by_cases h : k = []
  · rw [if_pos h]; decide
  · rw [if_neg h]
    have hm : ∀ c ∈ (k.map fun b => if b then (49 : UInt8) else 48), c = 49 ∨ c = 48 := by
      intro c hc
      obtain ⟨b, _, rfl⟩ := List.mem_map.1 hc
      cases b <;> simp
    refine ⟨by simpa using h, fun c hc g => ?_, fun g => ?_, fun g => ?_⟩
    · rcases hm c hc with e | e <;> rw [e] at g <;> exact absurd g (by decide)
    · rcases hm 35 (List.mem_of_mem_head? g) with e | e <;> exact absurd e (by decide)
    · rcases hm 34 (List.mem_of_mem_head? g) with e | e <;> exact absurd e (by decide)
theorem keeps_k (k : List Bool) : keepsS (kTxt k) = some k := by
  unfold kTxt
  by_cases h : k = []
  · rw [if_pos h]; subst h; rfl
  · rw [if_neg h]
    have hm : ∀ c ∈ (k.map fun b => if b then (49 : UInt8) else 48), c = 49 ∨ c = 48 := by
      intro c hc
      obtain ⟨b, _, rfl⟩ := List.mem_map.1 hc
      cases b <;> simp
    have h1 : ¬ (k.map fun b => if b then (49 : UInt8) else 48) = [45] := fun g => by
      rcases hm 45 (by rw [g]; simp) with e | e <;> exact absurd e (by decide)
    unfold keepsS
    rw [if_neg h1, if_pos]
    · rw [List.map_map]
      congr 1
      conv => rhs; rw [← List.map_id k]
      apply List.map_congr_left
      intro b _
      cases b <;> rfl
    · refine List.all_eq_true.2 fun c hc => ?_
      rcases hm c hc with e | e <;> rw [e] <;> rfl

/-! ### an act's words -/
def pw (s : Bs) : Tok := ⟨s, false⟩
def tx (s : Bs) : Tok := ⟨s, true⟩
def callT (n : Int) (c : Call) : Option (List Tok) :=
  if c.kind = 1 then some [pw wBegin, pw (Lib.itoa n), pw (if c.level = 2 then wSerial else wSnapshot)]
  else if c.kind = 2 then some [pw wGet, pw (Lib.itoa n), tx c.key]
  else if c.kind = 3 then some [pw wPut, pw (Lib.itoa n), tx c.key, tx c.value]
  else if c.kind = 4 then some [pw wDelete, pw (Lib.itoa n), tx c.key]
  else if c.kind = 5 then some [pw wScan, pw (Lib.itoa n), tx c.low, tx c.high]
  else if c.kind = 6 then some [pw wCommit, pw (Lib.itoa n)]
  else if c.kind = 7 then some [pw wAbort, pw (Lib.itoa n)]
  else if c.kind = 8 then some [pw wEpoch]
  else if c.kind = 9 then some [pw wPrune, tx c.key]
  else if c.kind = 10 then some [pw wShrink, tx c.key]
  else if c.kind = 11 then some [pw wSave]
  else if c.kind = 12 then some [pw wForget]
  else none
def actT (a : Act) : Option (List Tok) :=
  if a.d = 1 then callT a.n a.c
  else if a.d = 2 then some [pw wStep, pw (Lib.itoa a.n)]
  else if a.d = 3 then some [pw wPick, pw (Lib.itoa a.n)]
  else if a.d = 4 then some [pw wRun, pw (Lib.itoa a.n)]
  else if a.d = 5 then some [pw wAll]
  else if a.d = 6 then some [pw wCrash, pw (kTxt a.k)]
  else if a.d = 7 then some [pw wFuse, pw (Lib.itoa a.n), pw (kTxt a.k)]
  else if a.d = 8 then some [pw wRestart]
  else if a.d = 9 then some [pw wRest]
  else none
/-- the act that its words say -/
def backC (n : Int) (c : Call) : Act :=
  if c.kind = 1 then ⟨1, n, { noCall with kind := 1, level := if c.level = 2 then 2 else 1 }, []⟩
  else if c.kind = 2 then ⟨1, n, { noCall with kind := 2, key := c.key }, []⟩
  else if c.kind = 3 then ⟨1, n, { noCall with kind := 3, key := c.key, value := c.value }, []⟩
  else if c.kind = 4 then ⟨1, n, { noCall with kind := 4, key := c.key }, []⟩
  else if c.kind = 5 then ⟨1, n, { noCall with kind := 5, low := c.low, high := c.high }, []⟩
  else if c.kind = 6 then ⟨1, n, { noCall with kind := 6 }, []⟩
  else if c.kind = 7 then ⟨1, n, { noCall with kind := 7 }, []⟩
  else if c.kind = 8 then ⟨1, 16, { noCall with kind := 8 }, []⟩
  else if c.kind = 9 then ⟨1, 16, { noCall with kind := 9, key := c.key }, []⟩
  else if c.kind = 10 then ⟨1, 16, { noCall with kind := 10, key := c.key }, []⟩
  else if c.kind = 11 then ⟨1, 16, { noCall with kind := 11 }, []⟩
  else ⟨1, 16, { noCall with kind := 12 }, []⟩
def backA (a : Act) : Act :=
  if a.d = 1 then backC a.n a.c
  else if a.d = 2 then ⟨2, a.n, noCall, []⟩
  else if a.d = 3 then ⟨3, a.n, noCall, []⟩
  else if a.d = 4 then ⟨4, a.n, noCall, []⟩
  else if a.d = 5 then ⟨5, 0, noCall, []⟩
  else if a.d = 6 then ⟨6, 0, noCall, a.k⟩
  else if a.d = 7 then ⟨7, a.n, noCall, a.k⟩
  else if a.d = 8 then ⟨8, 0, noCall, []⟩
  else ⟨9, 0, noCall, []⟩
def lineS (a : Act) : Option Bs := match actT a with
  | none => none
  | some l => if backA a = a then some (lineT l) else none

theorem fits_of {w : Tok} {ws : List Tok} {cs : Bs} {f : Flds} (hf : formOf w.s = some cs) (ht : w.t = false) (hl : ws.length = cs.length) (hk : (List.zip cs ws).all (fun p => kindOk p.1 p.2) = true) (ha : addVals ⟨[], [], []⟩ cs ws = some f) : fitsOf (w :: ws) = .ok f := by
  unfold fitsOf
  simp only [hf]
  have hno : ¬ (w.t = true ∨ ws.length ≠ cs.length ∨ ¬ (List.zip cs ws).all (fun p => kindOk p.1 p.2) = true) := by
    rintro (g | g | g)
    · rw [ht] at g; cases g
    · exact g hl
    · exact g hk
  rw [if_neg hno, ha]
theorem add_n {f : Flds} {cs : Bs} {w : Tok} {ws : List Tok} {v : Int} (h : numOf w.s = some v) : addVals f (110 :: cs) (w :: ws) = addVals { f with n := f.n ++ [v] } cs ws := by
  rw [addVals, show addVal f 110 w = (numOf w.s).map fun v => { f with n := f.n ++ [v] } from rfl, h]; rfl
theorem add_k {f : Flds} {cs : Bs} {w : Tok} {ws : List Tok} {v : List Bool} (h : keepsS w.s = some v) : addVals f (107 :: cs) (w :: ws) = addVals { f with k := v } cs ws := by
  rw [addVals, show addVal f 107 w = (keepsS w.s).map fun k => { f with k := k } from rfl, h]; rfl
/-- a line's words say what 'backA' says -/
def Says (l : List Tok) (a : Act) : Prop := ∃ w ws f, l = w :: ws ∧ w.t = false ∧ fitsOf l = .ok f ∧ actOf w.s f = a ∧ ∀ x ∈ l, wordOk x
theorem says_n (z cs : Bs) (n : Int) (hb : -9223372036854775808 ≤ n ∧ n ≤ 9223372036854775807) (hf : formOf z = some (110 :: cs)) (hp : plainW z) (ws : List Tok) (f : Flds) (a : Act) (hl : ws.length = cs.length) (hk : (List.zip cs ws).all (fun p => kindOk p.1 p.2) = true)
    (ha : addVals ⟨[n], [], []⟩ cs ws = some f) (hA : actOf z f = a) (hw : ∀ x ∈ ws, wordOk x) : Says (pw z :: pw (Lib.itoa n) :: ws) a := by
  refine ⟨pw z, _, f, rfl, rfl, fits_of hf rfl (by simp [hl]) ?_ ?_, hA, ?_⟩
  · rw [List.zip_cons_cons, List.all_cons, hk]; rfl
  · rw [add_n (numOf_itoa hb)]; exact ha
  · intro x hx
    rcases List.mem_cons.1 hx with rfl | hx
    · exact .inr hp
    · rcases List.mem_cons.1 hx with rfl | hx
      · exact .inr (plain_itoa n)
      · exact hw x hx
theorem wd1 {a : Tok} (h : wordOk a) : ∀ x ∈ [a], wordOk x := by
  intro x hx; simp only [List.mem_cons, List.not_mem_nil, or_false] at hx; subst hx; exact h
theorem wd2 {a b : Tok} (h : wordOk a) (h2 : wordOk b) : ∀ x ∈ [a, b], wordOk x := by
  intro x hx; simp only [List.mem_cons, List.not_mem_nil, or_false] at hx; rcases hx with rfl | rfl; exact h; exact h2
theorem actT_says {a : Act} {l : List Tok} (h : actT a = some l) (hb : -9223372036854775808 ≤ a.n ∧ a.n ≤ 9223372036854775807) : Says l (backA a) := by
  obtain ⟨d, n, ⟨kind, level, key, value, low, high⟩, k⟩ := a
  simp only at hb
  unfold actT at h
  unfold backA
  simp only at h ⊢
  by_cases h1 : d = 1
  · rw [if_pos h1] at h ⊢
    unfold callT at h
    unfold backC
    simp only at h ⊢
    by_cases g : kind = 1
    · rw [if_pos g] at h ⊢; obtain rfl := Option.some.inj h
      by_cases gl : level = 2
      · rw [if_pos gl, if_pos gl]
        exact says_n wBegin [119] n hb (by decide +kernel) (by decide +kernel) [pw wSerial] ⟨[n], [wSerial], []⟩ _ rfl (by decide +kernel) rfl rfl (wd1 (.inr (by decide +kernel)))
      · rw [if_neg gl, if_neg gl]
        exact says_n wBegin [119] n hb (by decide +kernel) (by decide +kernel) [pw wSnapshot] ⟨[n], [wSnapshot], []⟩ _ rfl (by decide +kernel) rfl rfl (wd1 (.inr (by decide +kernel)))
    rw [if_neg g] at h ⊢; clear g
    by_cases g : kind = 2
    · rw [if_pos g] at h ⊢; obtain rfl := Option.some.inj h
      exact says_n wGet [116] n hb (by decide +kernel) (by decide +kernel) [tx key] ⟨[n], [key], []⟩ _ rfl rfl rfl rfl (wd1 (.inl rfl))
    rw [if_neg g] at h ⊢; clear g
    by_cases g : kind = 3
    · rw [if_pos g] at h ⊢; obtain rfl := Option.some.inj h
      exact says_n wPut [116, 116] n hb (by decide +kernel) (by decide +kernel) [tx key, tx value] ⟨[n], [key, value], []⟩ _ rfl rfl rfl rfl (wd2 (.inl rfl) (.inl rfl))
    rw [if_neg g] at h ⊢; clear g
    by_cases g : kind = 4
    · rw [if_pos g] at h ⊢; obtain rfl := Option.some.inj h
      exact says_n wDelete [116] n hb (by decide +kernel) (by decide +kernel) [tx key] ⟨[n], [key], []⟩ _ rfl rfl rfl rfl (wd1 (.inl rfl))
    rw [if_neg g] at h ⊢; clear g
    by_cases g : kind = 5
    · rw [if_pos g] at h ⊢; obtain rfl := Option.some.inj h
      exact says_n wScan [116, 116] n hb (by decide +kernel) (by decide +kernel) [tx low, tx high] ⟨[n], [low, high], []⟩ _ rfl rfl rfl rfl (wd2 (.inl rfl) (.inl rfl))
    rw [if_neg g] at h ⊢; clear g
    by_cases g : kind = 6
    · rw [if_pos g] at h ⊢; obtain rfl := Option.some.inj h
      exact says_n wCommit [] n hb (by decide +kernel) (by decide +kernel) [] ⟨[n], [], []⟩ _ rfl rfl rfl rfl (fun x hx => by cases hx)
    rw [if_neg g] at h ⊢; clear g
    by_cases g : kind = 7
    · rw [if_pos g] at h ⊢; obtain rfl := Option.some.inj h
      exact says_n wAbort [] n hb (by decide +kernel) (by decide +kernel) [] ⟨[n], [], []⟩ _ rfl rfl rfl rfl (fun x hx => by cases hx)
    rw [if_neg g] at h ⊢; clear g
    by_cases g : kind = 8
    · rw [if_pos g] at h ⊢; obtain rfl := Option.some.inj h
      exact ⟨pw wEpoch, [], ⟨[], [], []⟩, rfl, rfl, fits_of (cs := []) (by decide +kernel) rfl rfl rfl rfl, rfl, wd1 (.inr (by decide +kernel))⟩
    rw [if_neg g] at h ⊢; clear g
    by_cases g : kind = 9
    · rw [if_pos g] at h ⊢; obtain rfl := Option.some.inj h
      exact ⟨pw wPrune, [tx key], ⟨[], [key], []⟩, rfl, rfl, fits_of (cs := [116]) (by decide +kernel) rfl rfl rfl rfl, rfl, wd2 (.inr (by decide +kernel)) (.inl rfl)⟩
    rw [if_neg g] at h ⊢; clear g
    by_cases g : kind = 10
    · rw [if_pos g] at h ⊢; obtain rfl := Option.some.inj h
      exact ⟨pw wShrink, [tx key], ⟨[], [key], []⟩, rfl, rfl, fits_of (cs := [116]) (by decide +kernel) rfl rfl rfl rfl, rfl, wd2 (.inr (by decide +kernel)) (.inl rfl)⟩
    rw [if_neg g] at h ⊢; clear g
    by_cases g : kind = 11
    · rw [if_pos g] at h ⊢; obtain rfl := Option.some.inj h
      exact ⟨pw wSave, [], ⟨[], [], []⟩, rfl, rfl, fits_of (cs := []) (by decide +kernel) rfl rfl rfl rfl, rfl, wd1 (.inr (by decide +kernel))⟩
    rw [if_neg g] at h ⊢; clear g
    by_cases g : kind = 12
    · rw [if_pos g] at h; obtain rfl := Option.some.inj h
      exact ⟨pw wForget, [], ⟨[], [], []⟩, rfl, rfl, fits_of (cs := []) (by decide +kernel) rfl rfl rfl rfl, rfl, wd1 (.inr (by decide +kernel))⟩
    rw [if_neg g] at h; cases h
  rw [if_neg h1] at h ⊢; clear h1
  by_cases h1 : d = 2
  · rw [if_pos h1] at h ⊢; obtain rfl := Option.some.inj h
    exact says_n wStep [] n hb (by decide +kernel) (by decide +kernel) [] ⟨[n], [], []⟩ _ rfl rfl rfl rfl (fun x hx => by cases hx)
  rw [if_neg h1] at h ⊢; clear h1
  by_cases h1 : d = 3
  · rw [if_pos h1] at h ⊢; obtain rfl := Option.some.inj h
    exact says_n wPick [] n hb (by decide +kernel) (by decide +kernel) [] ⟨[n], [], []⟩ _ rfl rfl rfl rfl (fun x hx => by cases hx)
  rw [if_neg h1] at h ⊢; clear h1
  by_cases h1 : d = 4
  · rw [if_pos h1] at h ⊢; obtain rfl := Option.some.inj h
    exact says_n wRun [] n hb (by decide +kernel) (by decide +kernel) [] ⟨[n], [], []⟩ _ rfl rfl rfl rfl (fun x hx => by cases hx)
  rw [if_neg h1] at h ⊢; clear h1
  by_cases h1 : d = 5
  · rw [if_pos h1] at h ⊢; obtain rfl := Option.some.inj h
    exact ⟨pw wAll, [], ⟨[], [], []⟩, rfl, rfl, fits_of (cs := []) (by decide +kernel) rfl rfl rfl rfl, rfl, wd1 (.inr (by decide +kernel))⟩
  rw [if_neg h1] at h ⊢; clear h1
  by_cases h1 : d = 6
  · rw [if_pos h1] at h ⊢; obtain rfl := Option.some.inj h
    exact ⟨pw wCrash, [pw (kTxt k)], ⟨[], [], k⟩, rfl, rfl, fits_of (cs := [107]) (by decide +kernel) rfl rfl rfl (add_k (keeps_k k)), rfl, wd2 (.inr (by decide +kernel)) (.inr (plain_k k))⟩
  rw [if_neg h1] at h ⊢; clear h1
  by_cases h1 : d = 7
  · rw [if_pos h1] at h ⊢; obtain rfl := Option.some.inj h
    exact says_n wFuse [107] n hb (by decide +kernel) (by decide +kernel) [pw (kTxt k)] ⟨[n], [], k⟩ _ rfl rfl (add_k (keeps_k k)) rfl (wd1 (.inr (plain_k k)))
  rw [if_neg h1] at h ⊢; clear h1
  by_cases h1 : d = 8
  · rw [if_pos h1] at h ⊢; obtain rfl := Option.some.inj h
    exact ⟨pw wRestart, [], ⟨[], [], []⟩, rfl, rfl, fits_of (cs := []) (by decide +kernel) rfl rfl rfl rfl, rfl, wd1 (.inr (by decide +kernel))⟩
  rw [if_neg h1] at h ⊢; clear h1
  by_cases h1 : d = 9
  · rw [if_pos h1] at h; obtain rfl := Option.some.inj h
    exact ⟨pw wRest, [], ⟨[], [], []⟩, rfl, rfl, fits_of (cs := []) (by decide +kernel) rfl rfl rfl rfl, rfl, wd1 (.inr (by decide +kernel))⟩
  rw [if_neg h1] at h; cases h

/-- unlike acts have unlike lines -/
theorem line_inj {a b : Act} {s : Bs} (ha : lineS a = some s) (hb : lineS b = some s) (hna : -9223372036854775808 ≤ a.n ∧ a.n ≤ 9223372036854775807) (hnb : -9223372036854775808 ≤ b.n ∧ b.n ≤ 9223372036854775807) : a = b := by
  unfold lineS at ha hb
  cases h1 : actT a with
  | none => rw [h1] at ha; cases ha
  | some l =>
    cases h2 : actT b with
    | none => rw [h2] at hb; cases hb
    | some m =>
      rw [h1] at ha
      rw [h2] at hb
      simp only at ha hb
      split at ha
      · rename_i e1
        split at hb
        · rename_i e2
          obtain ⟨w, ws, f, rfl, _, hf, hA, hw⟩ := actT_says h1 hna
          obtain ⟨w', ws', f', rfl, _, hf', hA', hw'⟩ := actT_says h2 hnb
          have i1 := words_line _ hw
          have i2 := words_line _ hw'
          rw [Option.some.inj ha] at i1
          rw [Option.some.inj hb] at i2
          rw [i1] at i2
          obtain ⟨rfl, rfl⟩ := List.cons.inj (Option.some.inj i2)
          rw [hf] at hf'
          simp only [Except.ok.injEq] at hf'
          subst hf'
          rw [← e1, ← e2, ← hA, ← hA']
        · cases hb
      · cases ha
end Go.Gsl

namespace Go.Gsl
set_option linter.unusedVariables false
theorem quoteC_len4 (b : UInt8) : (quoteC b).length ≤ 4 := by
  unfold quoteC
  split
  · simp
  · split <;> simp
theorem quoteS_len (s : Bs) : (quoteS s).length ≤ 4 * s.length + 2 := by
  have h : (s.flatMap quoteC).length ≤ s.length * 4 := by
    induction s with
    | nil => simp
    | cons b s ih =>
      rw [List.flatMap_cons, List.length_append, List.length_cons]
      have := quoteC_len4 b
      omega
  unfold quoteS
  simp only [List.length_append, List.length_cons, List.length_nil]
  omega
theorem kTxt_len (k : List Bool) : (kTxt k).length ≤ k.length + 1 := by
  unfold kTxt
  split
  · simp
  · rw [List.length_map]; omega
theorem lineT_len : ∀ l : List Tok, (lineT l).length ≤ (l.map fun w => (tokT w).length + 1).sum
  | [] => by unfold lineT; simp [Lib.join]
  | [w] => by unfold lineT; simp [Lib.join_one]
  | w :: v :: l => by
    have ih := lineT_len (v :: l)
    rw [lineT_cons, List.length_append, List.length_cons, List.map_cons, List.sum_cons]
    omega
theorem pw_len (s : Bs) : (tokT (pw s)).length = s.length := rfl
theorem tx_len (s : Bs) : (tokT (tx s)).length ≤ 4 * s.length + 2 := quoteS_len s
theorem line_len {a : Act} {l : List Tok} (h : actT a = some l) (h1 : a.c.key.length ≤ 1048576) (h2 : a.c.value.length ≤ 1048576) (h3 : a.c.low.length ≤ 1048576) (h4 : a.c.high.length ≤ 1048576) (h5 : a.k.length ≤ 1048576) (hn : -9223372036854775808 ≤ a.n ∧ a.n ≤ 9223372036854775807) :
    (lineT l).length ≤ 4 * (a.c.key.length + a.c.value.length + a.c.low.length + a.c.high.length) + a.k.length + 60 := by
  have h0 := lineT_len l
  have hi := Lib.itoa_length_le a.n hn.1 hn.2
  have hk := kTxt_len a.k
  have t1 := tx_len a.c.key
  have t2 := tx_len a.c.value
  have t3 := tx_len a.c.low
  have t4 := tx_len a.c.high
  have lStore : wStore.length = 5 := rfl
  have lBegin : wBegin.length = 5 := rfl
  have lGet : wGet.length = 3 := rfl
  have lDelete : wDelete.length = 6 := rfl
  have lPut : wPut.length = 3 := rfl
  have lScan : wScan.length = 4 := rfl
  have lCommit : wCommit.length = 6 := rfl
  have lAbort : wAbort.length = 5 := rfl
  have lStep : wStep.length = 4 := rfl
  have lPick : wPick.length = 4 := rfl
  have lRun : wRun.length = 3 := rfl
  have lEpoch : wEpoch.length = 5 := rfl
  have lSave : wSave.length = 4 := rfl
  have lForget : wForget.length = 6 := rfl
  have lAll : wAll.length = 3 := rfl
  have lRestart : wRestart.length = 7 := rfl
  have lRest : wRest.length = 4 := rfl
  have lPrune : wPrune.length = 5 := rfl
  have lShrink : wShrink.length = 6 := rfl
  have lCrash : wCrash.length = 5 := rfl
  have lFuse : wFuse.length = 4 := rfl
  have lSnapshot : wSnapshot.length = 8 := rfl
  have lSerial : wSerial.length = 6 := rfl
  unfold actT at h
  by_cases g : a.d = 1
  · rw [if_pos g] at h
    unfold callT at h
    by_cases q : a.c.kind = 1
    · rw [if_pos q] at h
      by_cases lv : a.c.level = 2
      · rw [if_pos lv] at h
        obtain rfl := Option.some.inj h
        simp only [List.map_cons, List.map_nil, List.sum_cons, List.sum_nil, pw_len] at h0
        first | omega | (split at h0 <;> omega)
      · rw [if_neg lv] at h
        obtain rfl := Option.some.inj h
        simp only [List.map_cons, List.map_nil, List.sum_cons, List.sum_nil, pw_len] at h0
        first | omega | (split at h0 <;> omega)
    rw [if_neg q] at h; clear q
    by_cases q : a.c.kind = 2
    · rw [if_pos q] at h
      obtain rfl := Option.some.inj h
      simp only [List.map_cons, List.map_nil, List.sum_cons, List.sum_nil, pw_len] at h0
      first | omega | (split at h0 <;> omega)
    rw [if_neg q] at h; clear q
    by_cases q : a.c.kind = 3
    · rw [if_pos q] at h
      obtain rfl := Option.some.inj h
      simp only [List.map_cons, List.map_nil, List.sum_cons, List.sum_nil, pw_len] at h0
      first | omega | (split at h0 <;> omega)
    rw [if_neg q] at h; clear q
    by_cases q : a.c.kind = 4
    · rw [if_pos q] at h
      obtain rfl := Option.some.inj h
      simp only [List.map_cons, List.map_nil, List.sum_cons, List.sum_nil, pw_len] at h0
      first | omega | (split at h0 <;> omega)
    rw [if_neg q] at h; clear q
    by_cases q : a.c.kind = 5
    · rw [if_pos q] at h
      obtain rfl := Option.some.inj h
      simp only [List.map_cons, List.map_nil, List.sum_cons, List.sum_nil, pw_len] at h0
      first | omega | (split at h0 <;> omega)
    rw [if_neg q] at h; clear q
    by_cases q : a.c.kind = 6
    · rw [if_pos q] at h
      obtain rfl := Option.some.inj h
      simp only [List.map_cons, List.map_nil, List.sum_cons, List.sum_nil, pw_len] at h0
      first | omega | (split at h0 <;> omega)
    rw [if_neg q] at h; clear q
    by_cases q : a.c.kind = 7
    · rw [if_pos q] at h
      obtain rfl := Option.some.inj h
      simp only [List.map_cons, List.map_nil, List.sum_cons, List.sum_nil, pw_len] at h0
      first | omega | (split at h0 <;> omega)
    rw [if_neg q] at h; clear q
    by_cases q : a.c.kind = 8
    · rw [if_pos q] at h
      obtain rfl := Option.some.inj h
      simp only [List.map_cons, List.map_nil, List.sum_cons, List.sum_nil, pw_len] at h0
      first | omega | (split at h0 <;> omega)
    rw [if_neg q] at h; clear q
    by_cases q : a.c.kind = 9
    · rw [if_pos q] at h
      obtain rfl := Option.some.inj h
      simp only [List.map_cons, List.map_nil, List.sum_cons, List.sum_nil, pw_len] at h0
      first | omega | (split at h0 <;> omega)
    rw [if_neg q] at h; clear q
    by_cases q : a.c.kind = 10
    · rw [if_pos q] at h
      obtain rfl := Option.some.inj h
      simp only [List.map_cons, List.map_nil, List.sum_cons, List.sum_nil, pw_len] at h0
      first | omega | (split at h0 <;> omega)
    rw [if_neg q] at h; clear q
    by_cases q : a.c.kind = 11
    · rw [if_pos q] at h
      obtain rfl := Option.some.inj h
      simp only [List.map_cons, List.map_nil, List.sum_cons, List.sum_nil, pw_len] at h0
      first | omega | (split at h0 <;> omega)
    rw [if_neg q] at h; clear q
    by_cases q : a.c.kind = 12
    · rw [if_pos q] at h
      obtain rfl := Option.some.inj h
      simp only [List.map_cons, List.map_nil, List.sum_cons, List.sum_nil, pw_len] at h0
      first | omega | (split at h0 <;> omega)
    rw [if_neg q] at h; clear q
    cases h
  rw [if_neg g] at h; clear g
  by_cases g : a.d = 2
  · rw [if_pos g] at h
    obtain rfl := Option.some.inj h
    simp only [List.map_cons, List.map_nil, List.sum_cons, List.sum_nil, pw_len] at h0
    first | omega | (split at h0 <;> omega)
  rw [if_neg g] at h; clear g
  by_cases g : a.d = 3
  · rw [if_pos g] at h
    obtain rfl := Option.some.inj h
    simp only [List.map_cons, List.map_nil, List.sum_cons, List.sum_nil, pw_len] at h0
    first | omega | (split at h0 <;> omega)
  rw [if_neg g] at h; clear g
  by_cases g : a.d = 4
  · rw [if_pos g] at h
    obtain rfl := Option.some.inj h
    simp only [List.map_cons, List.map_nil, List.sum_cons, List.sum_nil, pw_len] at h0
    first | omega | (split at h0 <;> omega)
  rw [if_neg g] at h; clear g
  by_cases g : a.d = 5
  · rw [if_pos g] at h
    obtain rfl := Option.some.inj h
    simp only [List.map_cons, List.map_nil, List.sum_cons, List.sum_nil, pw_len] at h0
    first | omega | (split at h0 <;> omega)
  rw [if_neg g] at h; clear g
  by_cases g : a.d = 6
  · rw [if_pos g] at h
    obtain rfl := Option.some.inj h
    simp only [List.map_cons, List.map_nil, List.sum_cons, List.sum_nil, pw_len] at h0
    first | omega | (split at h0 <;> omega)
  rw [if_neg g] at h; clear g
  by_cases g : a.d = 7
  · rw [if_pos g] at h
    obtain rfl := Option.some.inj h
    simp only [List.map_cons, List.map_nil, List.sum_cons, List.sum_nil, pw_len] at h0
    first | omega | (split at h0 <;> omega)
  rw [if_neg g] at h; clear g
  by_cases g : a.d = 8
  · rw [if_pos g] at h
    obtain rfl := Option.some.inj h
    simp only [List.map_cons, List.map_nil, List.sum_cons, List.sum_nil, pw_len] at h0
    first | omega | (split at h0 <;> omega)
  rw [if_neg g] at h; clear g
  by_cases g : a.d = 9
  · rw [if_pos g] at h
    obtain rfl := Option.some.inj h
    simp only [List.map_cons, List.map_nil, List.sum_cons, List.sum_nil, pw_len] at h0
    first | omega | (split at h0 <;> omega)
  rw [if_neg g] at h; clear g
  cases h
end Go.Gsl

namespace Go.Gsl
set_option linter.unusedVariables false
/-- what a walk may ask of an act -/
def Act.small (a : Act) : Prop := (-9223372036854775808 ≤ a.n ∧ a.n ≤ 9223372036854775807) ∧ a.c.key.length ≤ 1048576 ∧ a.c.value.length ≤ 1048576 ∧ a.c.low.length ≤ 1048576 ∧ a.c.high.length ≤ 1048576 ∧ a.k.length ≤ 1048576
def headS (c : List Int) : Bs := lineT (pw wStore :: c.map fun n => pw (Lib.itoa n))
def linesS : List Act → Option (List Bs)
  | [] => some []
  | a :: l => (lineS a).bind fun s => (linesS l).map (s :: ·)
def printS (c : List Int) (l : List Act) : Except Int Bs := match linesS l with
  | none => .error 1
  | some xs => if 4096 < l.length then .error 3 else .ok (Lib.join (headS c :: xs ++ [[]]) [10])
theorem linesS_app : ∀ (l m : List Act), linesS (l ++ m) = (linesS l).bind fun xs => (linesS m).map (xs ++ ·)
  | [], m => by simp [linesS]
  | a :: l, m => by
    have ih := linesS_app l m
    simp only [List.cons_append, linesS, ih]
    cases lineS a with
    | none => rfl
    | some s =>
      simp only [Option.bind_some]
      cases linesS l with
      | none => rfl
      | some xs => cases linesS m <;> simp
theorem linesS_none {l m : List Act} (h : linesS l = none) : linesS (l ++ m) = none := by rw [linesS_app, h]; rfl
theorem linesS_len : ∀ {l : List Act} {xs : List Bs}, linesS l = some xs → xs.length = l.length
  | [], xs, h => by obtain rfl := Option.some.inj h; rfl
  | a :: l, xs, h => by
    simp only [linesS] at h
    cases ha : lineS a with
    | none => rw [ha] at h; cases h
    | some s =>
      rw [ha] at h
      simp only [Option.bind_some] at h
      obtain ⟨ys, hy, rfl⟩ := Option.map_eq_some_iff.1 h
      simp only [List.length_cons, linesS_len hy]
theorem lineS_len {a : Act} {s : Bs} (h : lineS a = some s) (hs : a.small) : s.length ≤ 33554432 := by
  unfold lineS at h
  cases ha : actT a with
  | none => rw [ha] at h; cases h
  | some l =>
    rw [ha] at h
    simp only at h
    split at h
    · obtain rfl := Option.some.inj h
      obtain ⟨h0, h1, h2, h3, h4, h5⟩ := hs
      have := line_len ha h1 h2 h3 h4 h5 h0
      omega
    · cases h
theorem linesS_each : ∀ {l : List Act} {xs : List Bs}, linesS l = some xs → (∀ a ∈ l, a.small) → ∀ x ∈ xs, x.length ≤ 33554432
  | [], xs, h, _, x, hx => by obtain rfl := Option.some.inj h; cases hx
  | a :: l, xs, h, hs, x, hx => by
    simp only [linesS] at h
    cases ha : lineS a with
    | none => rw [ha] at h; cases h
    | some s =>
      rw [ha] at h
      simp only [Option.bind_some] at h
      obtain ⟨ys, hy, rfl⟩ := Option.map_eq_some_iff.1 h
      rcases List.mem_cons.1 hx with rfl | hx
      · exact lineS_len ha (hs a (by simp))
      · exact linesS_each hy (fun b hb => hs b (by simp [hb])) x hx
theorem head_len (c0 c1 c2 c3 c4 c5 c6 : Int) (h0 : -9223372036854775808 ≤ c0 ∧ c0 ≤ 9223372036854775807) (h1 : -9223372036854775808 ≤ c1 ∧ c1 ≤ 9223372036854775807) (h2 : -9223372036854775808 ≤ c2 ∧ c2 ≤ 9223372036854775807) (h3 : -9223372036854775808 ≤ c3 ∧ c3 ≤ 9223372036854775807)
    (h4 : -9223372036854775808 ≤ c4 ∧ c4 ≤ 9223372036854775807) (h5 : -9223372036854775808 ≤ c5 ∧ c5 ≤ 9223372036854775807) (h6 : -9223372036854775808 ≤ c6 ∧ c6 ≤ 9223372036854775807) : (headS [c0, c1, c2, c3, c4, c5, c6]).length ≤ 200 := by
  have i0 := Lib.itoa_length_le c0 h0.1 h0.2
  have i1 := Lib.itoa_length_le c1 h1.1 h1.2
  have i2 := Lib.itoa_length_le c2 h2.1 h2.2
  have i3 := Lib.itoa_length_le c3 h3.1 h3.2
  have i4 := Lib.itoa_length_le c4 h4.1 h4.2
  have i5 := Lib.itoa_length_le c5 h5.1 h5.2
  have i6 := Lib.itoa_length_le c6 h6.1 h6.2
  have h := lineT_len (pw wStore :: [c0, c1, c2, c3, c4, c5, c6].map fun n => pw (Lib.itoa n))
  have hs : wStore.length = 5 := rfl
  simp only [List.map_cons, List.map_nil, List.sum_cons, List.sum_nil, pw_len] at h
  unfold headS
  simp only [List.map_cons, List.map_nil]
  omega
theorem join_len (sep : UInt8) : ∀ xs : List Bs, (Lib.join xs [sep]).length ≤ (xs.map fun s => s.length + 1).sum
  | [] => by simp [Lib.join]
  | [x] => by rw [Lib.join_one]; simp
  | x :: y :: r => by
    have ih := join_len sep (y :: r)
    have e : Lib.join (x :: y :: r) [sep] = x ++ [sep] ++ Lib.join (y :: r) [sep] := by simp [Lib.join, List.intercalate]
    rw [e]
    simp only [List.length_append, List.length_cons, List.length_nil, List.map_cons, List.sum_cons] at ih ⊢
    omega
theorem sum_each (N : Nat) : ∀ xs : List Bs, (∀ x ∈ xs, x.length ≤ N) → (xs.map fun s => s.length + 1).sum ≤ xs.length * (N + 1)
  | [], _ => by simp
  | x :: xs, h => by
    have ih := sum_each N xs (fun y hy => h y (by simp [hy]))
    have := h x (by simp)
    rw [List.map_cons, List.sum_cons, List.length_cons, Nat.add_mul]
    omega
end Go.Gsl

namespace Go.Gsl
set_option linter.unusedVariables false
abbrev I64 (n : Int) : Prop := -9223372036854775808 ≤ n ∧ n ≤ 9223372036854775807
theorem cut_app (d : UInt8) (x rest : Bs) (hx : d ∉ x) : cutW d (x ++ d :: rest) = x ∧ cutR d (x ++ d :: rest) = rest := by
  unfold cutW cutR
  have key : ∀ x : Bs, d ∉ x → (x ++ d :: rest).takeWhile (· != d) = x ∧ (x ++ d :: rest).dropWhile (· != d) = d :: rest := by
    intro x
    induction x with
    | nil => intro _; simp
    | cons y x ih =>
      intro h
      have hy : y ≠ d := fun g => h (by simp [g])
      have ih := ih (fun g => h (by simp [g]))
      rw [List.cons_append, List.takeWhile_cons, List.dropWhile_cons, if_pos (by simpa using hy), if_pos (by simpa using hy), ih.1, ih.2]
      exact ⟨rfl, rfl⟩
  have := key x hx
  rw [this.1, this.2]
  exact ⟨rfl, rfl⟩
theorem numOf_rng {s : Bs} {v : Int} (h : numOf s = some v) : I64 v := by
  unfold numOf at h
  cases hA : Lib.atoiAll s
  rotate_left
  · rw [hA] at h; cases h
  · rw [hA] at h; cases h
  · rename_i k
    rw [hA] at h
    simp only at h
    have hb := Lib.atoiAll_bounds hA
    split at h
    · obtain rfl := Option.some.inj h; exact hb
    · cases h
theorem keepsS_len {s : Bs} {k : List Bool} (h : keepsS s = some k) : k.length ≤ s.length := by
  unfold keepsS at h
  split at h
  · obtain rfl := Option.some.inj h; simp
  · split at h
    · obtain rfl := Option.some.inj h; simp
    · cases h
theorem parse_cons (r : Scr) (n : Int) (x rest : Bs) (hx : (10 : UInt8) ∉ x) : parseR r n (x ++ 10 :: rest) = (match takeS r x with
    | .error e => .error (e, n + 1)
    | .ok r => parseR r (n + 1) rest) := by
  have h := cut_app 10 x rest hx
  rw [parseR_step _ _ _ (by simp), h.1, h.2]
  cases takeS r x <;> rfl

/-! ### no line's end in a line -/
theorem no10_quote (s : Bs) : (10 : UInt8) ∉ quoteS s := by
  unfold quoteS
  intro h
  simp only [List.mem_append, List.mem_cons, List.not_mem_nil, or_false] at h
  rcases h with (h | h) | h
  · exact absurd h (by decide)
  · obtain ⟨b, _, hb⟩ := List.mem_flatMap.1 h
    have key : ∀ k : Fin 256, (10 : UInt8) ∉ quoteC (UInt8.ofNat k.val) := by decide +kernel
    have := key ⟨b.toNat, b.toNat_lt⟩
    simp only [UInt8.ofNat_toNat] at this
    exact this hb
  · exact absurd h (by decide)
theorem no10_itoa (k : Int) : (10 : UInt8) ∉ Lib.itoa k := by
  unfold Lib.itoa
  intro h
  split at h
  · rcases List.mem_cons.1 h with h | h
    · exact absurd h (by decide)
    · have := digR_all _ _ _ (digR_dec _) 10 h; exact absurd this (by decide)
  · have := digR_all _ _ _ (digR_dec _) 10 h; exact absurd this (by decide)
theorem no10_k (k : List Bool) : (10 : UInt8) ∉ kTxt k := by
  unfold kTxt
  intro h
  split at h
  · simp at h
  · obtain ⟨b, _, hb⟩ := List.mem_map.1 h
    cases b <;> exact absurd hb (by decide)
theorem no10_line : ∀ l : List Tok, (∀ w ∈ l, (10 : UInt8) ∉ tokT w) → (10 : UInt8) ∉ lineT l
  | [], _ => by unfold lineT; simp [Lib.join]
  | [w], h => by
    have h1 : lineT [w] = tokT w := by unfold lineT; simp [Lib.join_one]
    rw [h1]; exact h w (by simp)
  | w :: v :: l, h => by
    have ih := no10_line (v :: l) (fun x hx => h x (by simp [hx]))
    rw [lineT_cons]
    intro hm
    rcases List.mem_append.1 hm with hm | hm
    · exact h w (by simp) hm
    · rcases List.mem_cons.1 hm with hm | hm
      · exact absurd hm (by decide)
      · exact ih hm
def LineGood (l : List Tok) : Prop := (∃ w ws, l = w :: ws ∧ w.s ≠ wStore) ∧ ∀ w ∈ l, (10 : UInt8) ∉ tokT w
theorem lg1 {z : Bs} (h : z ≠ wStore) (h1 : (10 : UInt8) ∉ z) : LineGood [pw z] := ⟨⟨_, _, rfl, h⟩, by
  intro w hw; simp only [List.mem_cons, List.not_mem_nil, or_false] at hw; subst hw; exact h1⟩
theorem lg2 {z : Bs} {a : Tok} (h : z ≠ wStore) (h1 : (10 : UInt8) ∉ z) (h2 : (10 : UInt8) ∉ tokT a) : LineGood [pw z, a] := ⟨⟨_, _, rfl, h⟩, by
  intro w hw; simp only [List.mem_cons, List.not_mem_nil, or_false] at hw; rcases hw with rfl | rfl; exact h1; exact h2⟩
theorem lg3 {z : Bs} {a b : Tok} (h : z ≠ wStore) (h1 : (10 : UInt8) ∉ z) (h2 : (10 : UInt8) ∉ tokT a) (h3 : (10 : UInt8) ∉ tokT b) : LineGood [pw z, a, b] := ⟨⟨_, _, rfl, h⟩, by
  intro w hw; simp only [List.mem_cons, List.not_mem_nil, or_false] at hw; rcases hw with rfl | rfl | rfl; exact h1; exact h2; exact h3⟩
theorem lg4 {z : Bs} {a b c : Tok} (h : z ≠ wStore) (h1 : (10 : UInt8) ∉ z) (h2 : (10 : UInt8) ∉ tokT a) (h3 : (10 : UInt8) ∉ tokT b) (h4 : (10 : UInt8) ∉ tokT c) : LineGood [pw z, a, b, c] := ⟨⟨_, _, rfl, h⟩, by
  intro w hw; simp only [List.mem_cons, List.not_mem_nil, or_false] at hw; rcases hw with rfl | rfl | rfl | rfl; exact h1; exact h2; exact h3; exact h4⟩
theorem line_good {a : Act} {l : List Tok} (h : actT a = some l) : LineGood l := by
  unfold actT at h
  by_cases g : a.d = 1
  · rw [if_pos g] at h
    unfold callT at h
    by_cases q : a.c.kind = 1
    · rw [if_pos q] at h
      by_cases lv : a.c.level = 2
      · rw [if_pos lv] at h
        obtain rfl := Option.some.inj h
        exact lg3 (by decide +kernel) (by decide +kernel) (no10_itoa _) (by decide +kernel)
      · rw [if_neg lv] at h
        obtain rfl := Option.some.inj h
        exact lg3 (by decide +kernel) (by decide +kernel) (no10_itoa _) (by decide +kernel)
    rw [if_neg q] at h; clear q
    by_cases q : a.c.kind = 2
    · rw [if_pos q] at h
      obtain rfl := Option.some.inj h
      exact lg3 (by decide +kernel) (by decide +kernel) (no10_itoa _) (no10_quote _)
    rw [if_neg q] at h; clear q
    by_cases q : a.c.kind = 3
    · rw [if_pos q] at h
      obtain rfl := Option.some.inj h
      exact lg4 (by decide +kernel) (by decide +kernel) (no10_itoa _) (no10_quote _) (no10_quote _)
    rw [if_neg q] at h; clear q
    by_cases q : a.c.kind = 4
    · rw [if_pos q] at h
      obtain rfl := Option.some.inj h
      exact lg3 (by decide +kernel) (by decide +kernel) (no10_itoa _) (no10_quote _)
    rw [if_neg q] at h; clear q
    by_cases q : a.c.kind = 5
    · rw [if_pos q] at h
      obtain rfl := Option.some.inj h
      exact lg4 (by decide +kernel) (by decide +kernel) (no10_itoa _) (no10_quote _) (no10_quote _)
    rw [if_neg q] at h; clear q
    by_cases q : a.c.kind = 6
    · rw [if_pos q] at h
      obtain rfl := Option.some.inj h
      exact lg2 (by decide +kernel) (by decide +kernel) (no10_itoa _)
    rw [if_neg q] at h; clear q
    by_cases q : a.c.kind = 7
    · rw [if_pos q] at h
      obtain rfl := Option.some.inj h
      exact lg2 (by decide +kernel) (by decide +kernel) (no10_itoa _)
    rw [if_neg q] at h; clear q
    by_cases q : a.c.kind = 8
    · rw [if_pos q] at h
      obtain rfl := Option.some.inj h
      exact lg1 (by decide +kernel) (by decide +kernel)
    rw [if_neg q] at h; clear q
    by_cases q : a.c.kind = 9
    · rw [if_pos q] at h
      obtain rfl := Option.some.inj h
      exact lg2 (by decide +kernel) (by decide +kernel) (no10_quote _)
    rw [if_neg q] at h; clear q
    by_cases q : a.c.kind = 10
    · rw [if_pos q] at h
      obtain rfl := Option.some.inj h
      exact lg2 (by decide +kernel) (by decide +kernel) (no10_quote _)
    rw [if_neg q] at h; clear q
    by_cases q : a.c.kind = 11
    · rw [if_pos q] at h
      obtain rfl := Option.some.inj h
      exact lg1 (by decide +kernel) (by decide +kernel)
    rw [if_neg q] at h; clear q
    by_cases q : a.c.kind = 12
    · rw [if_pos q] at h
      obtain rfl := Option.some.inj h
      exact lg1 (by decide +kernel) (by decide +kernel)
    rw [if_neg q] at h; clear q
    cases h
  rw [if_neg g] at h; clear g
  by_cases g : a.d = 2
  · rw [if_pos g] at h
    obtain rfl := Option.some.inj h
    exact lg2 (by decide +kernel) (by decide +kernel) (no10_itoa _)
  rw [if_neg g] at h; clear g
  by_cases g : a.d = 3
  · rw [if_pos g] at h
    obtain rfl := Option.some.inj h
    exact lg2 (by decide +kernel) (by decide +kernel) (no10_itoa _)
  rw [if_neg g] at h; clear g
  by_cases g : a.d = 4
  · rw [if_pos g] at h
    obtain rfl := Option.some.inj h
    exact lg2 (by decide +kernel) (by decide +kernel) (no10_itoa _)
  rw [if_neg g] at h; clear g
  by_cases g : a.d = 5
  · rw [if_pos g] at h
    obtain rfl := Option.some.inj h
    exact lg1 (by decide +kernel) (by decide +kernel)
  rw [if_neg g] at h; clear g
  by_cases g : a.d = 6
  · rw [if_pos g] at h
    obtain rfl := Option.some.inj h
    exact lg2 (by decide +kernel) (by decide +kernel) (no10_k _)
  rw [if_neg g] at h; clear g
  by_cases g : a.d = 7
  · rw [if_pos g] at h
    obtain rfl := Option.some.inj h
    exact lg3 (by decide +kernel) (by decide +kernel) (no10_itoa _) (no10_k _)
  rw [if_neg g] at h; clear g
  by_cases g : a.d = 8
  · rw [if_pos g] at h
    obtain rfl := Option.some.inj h
    exact lg1 (by decide +kernel) (by decide +kernel)
  rw [if_neg g] at h; clear g
  by_cases g : a.d = 9
  · rw [if_pos g] at h
    obtain rfl := Option.some.inj h
    exact lg1 (by decide +kernel) (by decide +kernel)
  rw [if_neg g] at h; clear g
  cases h
theorem lineS_parts {a : Act} {s : Bs} (h : lineS a = some s) : ∃ l, actT a = some l ∧ backA a = a ∧ s = lineT l := by
  unfold lineS at h
  cases ha : actT a with
  | none => rw [ha] at h; cases h
  | some l =>
    rw [ha] at h
    simp only at h
    split at h
    · rename_i hb
      exact ⟨l, rfl, hb, (Option.some.inj h).symm⟩
    · cases h
theorem take_cons' {r : Scr} {s : Bs} {w : Tok} {ws : List Tok} (h : wordsL s = some (w :: ws)) : takeS r s =
    (if r.c.isNone ∧ (!w.t && decide (w.s = wStore)) = false then .error 263
    else if r.c.isSome ∧ (!w.t && decide (w.s = wStore)) = true then .error 260
    else match fitsOf (w :: ws) with
      | .error e => .error e
      | .ok f =>
        if (!w.t && decide (w.s = wStore)) = true then .ok { r with c := some f.n }
        else if 4096 ≤ r.a.length then .error 3
        else .ok { r with a := r.a ++ [actOf w.s f] }) := by
  have hst : decide (w = ⟨wStore, false⟩) = (!w.t && decide (w.s = wStore)) := by
    obtain ⟨s, t⟩ := w
    cases t <;> by_cases h : s = wStore <;> simp [h]
  unfold takeS; rw [h]; simp only [hst]; rfl
theorem take_line {a : Act} {s : Bs} (h : lineS a = some s) (hn : I64 a.n) (c : List Int) (acts : List Act) (hl : acts.length < 4096) : takeS ⟨some c, acts⟩ s = .ok ⟨some c, acts ++ [a]⟩ := by
  obtain ⟨l, h1, h2, rfl⟩ := lineS_parts h
  obtain ⟨w, ws, f, rfl, hwt, hfit, hact, hwok⟩ := actT_says h1 hn
  obtain ⟨⟨w', ws', he, hne⟩, _⟩ := line_good h1
  obtain ⟨rfl, rfl⟩ := List.cons.inj he
  rw [take_cons' (words_line _ hwok), hfit]
  have hst : (!w.t && decide (w.s = wStore)) = false := by rw [decide_eq_false hne, Bool.and_false]
  rw [hst]
  simp only [hact, h2]
  simp [Nat.not_le.2 hl]
theorem no10_lineS {a : Act} {s : Bs} (h : lineS a = some s) : (10 : UInt8) ∉ s := by
  obtain ⟨l, h1, _, rfl⟩ := lineS_parts h
  exact no10_line l (line_good h1).2
theorem join_nl (x : Bs) (xs : List Bs) : Lib.join (x :: xs ++ [[]]) [10] = x ++ 10 :: Lib.join (xs ++ [[]]) [10] := by
  cases xs <;> simp [Lib.join, List.intercalate]
theorem parse_lines : ∀ (l : List Act) (xs : List Bs) (acts : List Act) (n : Int) (c : List Int), linesS l = some xs → (∀ a ∈ l, I64 a.n) → acts.length + l.length ≤ 4096 →
    parseR ⟨some c, acts⟩ n (Lib.join (xs ++ [[]]) [10]) = .ok (⟨some c, acts ++ l⟩, n + l.length)
  | [], xs, acts, n, c, h, _, _ => by
    obtain rfl := Option.some.inj h
    have : Lib.join ([] ++ [[]]) [10] = ([] : Bs) := by simp [Lib.join_one]
    rw [this, parseR_nil]
    simp
  | a :: l, xs, acts, n, c, h, hn, hl => by
    simp only [linesS] at h
    cases ha : lineS a with
    | none => rw [ha] at h; cases h
    | some s =>
      rw [ha] at h
      simp only [Option.bind_some] at h
      obtain ⟨ys, hy, rfl⟩ := Option.map_eq_some_iff.1 h
      simp only [List.length_cons] at hl
      rw [join_nl, parse_cons _ _ _ _ (no10_lineS ha), take_line ha (hn a (by simp)) c acts (by omega)]
      simp only
      rw [parse_lines l ys (acts ++ [a]) (n + 1) c hy (fun b hb => hn b (by simp [hb])) (by simp only [List.length_append, List.length_cons, List.length_nil]; omega)]
      simp only [List.append_assoc, List.cons_append, List.nil_append, List.length_cons]
      congr 2
      omega
theorem head_take (c0 c1 c2 c3 c4 c5 c6 : Int) (h0 : I64 c0) (h1 : I64 c1) (h2 : I64 c2) (h3 : I64 c3) (h4 : I64 c4) (h5 : I64 c5) (h6 : I64 c6) : takeS ⟨none, []⟩ (headS [c0, c1, c2, c3, c4, c5, c6]) = .ok ⟨some [c0, c1, c2, c3, c4, c5, c6], []⟩ := by
  have hw : ∀ x ∈ (pw wStore :: [c0, c1, c2, c3, c4, c5, c6].map fun n => pw (Lib.itoa n)), wordOk x := by
    intro x hx
    rcases List.mem_cons.1 hx with rfl | hx
    · exact .inr (by decide +kernel)
    · obtain ⟨n, _, rfl⟩ := List.mem_map.1 hx
      exact .inr (plain_itoa n)
  have hf : fitsOf (pw wStore :: [c0, c1, c2, c3, c4, c5, c6].map fun n => pw (Lib.itoa n)) = .ok ⟨[c0, c1, c2, c3, c4, c5, c6], [], []⟩ := by
    refine fits_of (cs := [110, 110, 110, 110, 110, 110, 110]) (by decide +kernel) rfl rfl rfl ?_
    simp only [List.map_cons, List.map_nil]
    rw [add_n (numOf_itoa h0), add_n (numOf_itoa h1), add_n (numOf_itoa h2), add_n (numOf_itoa h3), add_n (numOf_itoa h4), add_n (numOf_itoa h5), add_n (numOf_itoa h6)]
    rfl
  unfold headS
  rw [take_cons' (words_line _ hw), hf]
  rfl
theorem head_no10 (c : List Int) : (10 : UInt8) ∉ headS c := by
  refine no10_line _ fun w hw => ?_
  rcases List.mem_cons.1 hw with rfl | hw
  · decide +kernel
  · obtain ⟨n, _, rfl⟩ := List.mem_map.1 hw
    exact no10_itoa n
/-- what is printed is read as it was -/
theorem parse_print {c0 c1 c2 c3 c4 c5 c6 : Int} {l : List Act} {b : Bs} (h : printS [c0, c1, c2, c3, c4, c5, c6] l = .ok b) (h0 : I64 c0) (h1 : I64 c1) (h2 : I64 c2) (h3 : I64 c3) (h4 : I64 c4) (h5 : I64 c5) (h6 : I64 c6) (hn : ∀ a ∈ l, I64 a.n) :
    parseS b = .ok ⟨some [c0, c1, c2, c3, c4, c5, c6], l⟩ := by
  unfold printS at h
  cases hx : linesS l with
  | none => rw [hx] at h; cases h
  | some xs =>
    rw [hx] at h
    simp only at h
    split at h
    · cases h
    · rename_i hl
      simp only [Except.ok.injEq] at h
      subst h
      rw [parseS_eq, join_nl, parse_cons _ _ _ _ (head_no10 _), head_take c0 c1 c2 c3 c4 c5 c6 h0 h1 h2 h3 h4 h5 h6]
      simp only
      rw [parse_lines l xs [] _ _ hx hn (by simp only [List.length_nil]; omega)]
      rfl

/-! ### what is read can be printed -/
def toksLen (l : List Tok) : Nat := (l.map fun w => w.s.length).sum
def Printable (a : Act) : Prop := I64 a.n ∧ ∃ s, lineS a = some s
def Call.sz (c : Call) : Nat := c.key.length + c.value.length + c.low.length + c.high.length
def Act.sz (a : Act) : Nat := a.c.sz + a.k.length
theorem lineS_of {a : Act} {l : List Tok} (h : actT a = some l) (hb : backA a = a) : ∃ s, lineS a = some s := by
  unfold lineS; rw [h]; simp only; rw [if_pos hb]; exact ⟨_, rfl⟩
theorem i16 : I64 16 := by decide
theorem i00 : I64 0 := by decide
theorem act_good {w : Tok} {ws : List Tok} {f : Flds} (h : fitsOf (w :: ws) = .ok f) (hs : w.s ≠ wStore) : Printable (actOf w.s f) ∧ (actOf w.s f).sz ≤ toksLen ws := by
  unfold fitsOf at h
  simp only at h
  cases hf : formOf w.s with
  | none => rw [hf] at h; cases h
  | some cs =>
    rw [hf] at h
    simp only at h
    split at h
    · cases h
    rename_i hno
    have hl : ws.length = cs.length := Classical.byContradiction fun g => hno (.inr (.inl g))
    have hk : (List.zip cs ws).all (fun p => kindOk p.1 p.2) = true := Classical.byContradiction fun g => hno (.inr (.inr g))
    cases ha : addVals ⟨[], [], []⟩ cs ws with
    | none => rw [ha] at h; cases h
    | some g =>
      rw [ha] at h
      simp only [Except.ok.injEq] at h
      subst h
      generalize w.s = z at *
      rw [formOf, if_neg hs] at hf
      by_cases q : z = wBegin
      · rw [if_pos q] at hf; obtain rfl := Option.some.inj hf; subst q
        obtain ⟨a, b, rfl⟩ := len2 hl
        obtain ⟨v, hv, ha⟩ := av_n ha
        obtain rfl := av_e (av_w ha)
        refine ⟨⟨numOf_rng hv, ?_⟩, Nat.zero_le _⟩
        by_cases hb : b.s = wSerial
        · have e : actOf wBegin ⟨[] ++ [v], [] ++ [b.s], []⟩ = ⟨1, v, { noCall with kind := 1, level := 2 }, []⟩ := by rw [hb]; rfl
          rw [e]; exact lineS_of (l := _) rfl rfl
        · have e : actOf wBegin ⟨[] ++ [v], [] ++ [b.s], []⟩ = ⟨1, v, { noCall with kind := 1, level := 1 }, []⟩ := by
            show Act.mk 1 v ⟨1, (if b.s = wSerial then 2 else 1), [], [], [], []⟩ [] = _
            rw [if_neg hb]; rfl
          rw [e]; exact lineS_of (l := _) rfl rfl
      rw [if_neg q] at hf; clear q
      by_cases q : z = wGet
      · rw [if_pos q] at hf; obtain rfl := Option.some.inj hf; subst q
        obtain ⟨a, b, rfl⟩ := len2 hl
        obtain ⟨v, hv, ha⟩ := av_n ha
        obtain rfl := av_e (av_t ha)
        refine ⟨⟨numOf_rng hv, lineS_of (l := _) rfl rfl⟩, ?_⟩
        show b.s.length + ([] : Bs).length + ([] : Bs).length + ([] : Bs).length + ([] : List Bool).length ≤ _
        simp only [toksLen, List.map_cons, List.map_nil, List.sum_cons, List.sum_nil]
        simp only [List.length_nil]
        omega
      rw [if_neg q] at hf; clear q
      by_cases q : z = wDelete
      · rw [if_pos q] at hf; obtain rfl := Option.some.inj hf; subst q
        obtain ⟨a, b, rfl⟩ := len2 hl
        obtain ⟨v, hv, ha⟩ := av_n ha
        obtain rfl := av_e (av_t ha)
        refine ⟨⟨numOf_rng hv, lineS_of (l := _) rfl rfl⟩, ?_⟩
        show b.s.length + ([] : Bs).length + ([] : Bs).length + ([] : Bs).length + ([] : List Bool).length ≤ _
        simp only [toksLen, List.map_cons, List.map_nil, List.sum_cons, List.sum_nil]
        simp only [List.length_nil]
        omega
      rw [if_neg q] at hf; clear q
      by_cases q : z = wPut
      · rw [if_pos q] at hf; obtain rfl := Option.some.inj hf; subst q
        obtain ⟨a, b, c, rfl⟩ := len3 hl
        obtain ⟨v, hv, ha⟩ := av_n ha
        obtain rfl := av_e (av_t (av_t ha))
        refine ⟨⟨numOf_rng hv, lineS_of (l := _) rfl rfl⟩, ?_⟩
        show b.s.length + c.s.length + ([] : Bs).length + ([] : Bs).length + ([] : List Bool).length ≤ _
        simp only [toksLen, List.map_cons, List.map_nil, List.sum_cons, List.sum_nil]
        simp only [List.length_nil]
        omega
      rw [if_neg q] at hf; clear q
      by_cases q : z = wScan
      · rw [if_pos q] at hf; obtain rfl := Option.some.inj hf; subst q
        obtain ⟨a, b, c, rfl⟩ := len3 hl
        obtain ⟨v, hv, ha⟩ := av_n ha
        obtain rfl := av_e (av_t (av_t ha))
        refine ⟨⟨numOf_rng hv, lineS_of (l := _) rfl rfl⟩, ?_⟩
        show ([] : Bs).length + ([] : Bs).length + b.s.length + c.s.length + ([] : List Bool).length ≤ _
        simp only [toksLen, List.map_cons, List.map_nil, List.sum_cons, List.sum_nil]
        simp only [List.length_nil]
        omega
      rw [if_neg q] at hf; clear q
      by_cases q : z = wCommit
      · rw [if_pos q] at hf; obtain rfl := Option.some.inj hf; subst q
        obtain ⟨a, rfl⟩ := len1 hl
        obtain ⟨v, hv, ha⟩ := av_n ha
        obtain rfl := av_e ha
        exact ⟨⟨numOf_rng hv, lineS_of (l := _) rfl rfl⟩, Nat.zero_le _⟩
      rw [if_neg q] at hf; clear q
      by_cases q : z = wAbort
      · rw [if_pos q] at hf; obtain rfl := Option.some.inj hf; subst q
        obtain ⟨a, rfl⟩ := len1 hl
        obtain ⟨v, hv, ha⟩ := av_n ha
        obtain rfl := av_e ha
        exact ⟨⟨numOf_rng hv, lineS_of (l := _) rfl rfl⟩, Nat.zero_le _⟩
      rw [if_neg q] at hf; clear q
      by_cases q : z = wStep
      · rw [if_pos q] at hf; obtain rfl := Option.some.inj hf; subst q
        obtain ⟨a, rfl⟩ := len1 hl
        obtain ⟨v, hv, ha⟩ := av_n ha
        obtain rfl := av_e ha
        exact ⟨⟨numOf_rng hv, lineS_of (l := _) rfl rfl⟩, Nat.zero_le _⟩
      rw [if_neg q] at hf; clear q
      by_cases q : z = wPick
      · rw [if_pos q] at hf; obtain rfl := Option.some.inj hf; subst q
        obtain ⟨a, rfl⟩ := len1 hl
        obtain ⟨v, hv, ha⟩ := av_n ha
        obtain rfl := av_e ha
        exact ⟨⟨numOf_rng hv, lineS_of (l := _) rfl rfl⟩, Nat.zero_le _⟩
      rw [if_neg q] at hf; clear q
      by_cases q : z = wRun
      · rw [if_pos q] at hf; obtain rfl := Option.some.inj hf; subst q
        obtain ⟨a, rfl⟩ := len1 hl
        obtain ⟨v, hv, ha⟩ := av_n ha
        obtain rfl := av_e ha
        exact ⟨⟨numOf_rng hv, lineS_of (l := _) rfl rfl⟩, Nat.zero_le _⟩
      rw [if_neg q] at hf; clear q
      by_cases q : z = wEpoch
      · rw [if_pos q] at hf; obtain rfl := Option.some.inj hf; subst q
        obtain rfl := len0 hl
        obtain rfl := av_e ha
        exact ⟨⟨i16, lineS_of (l := _) rfl rfl⟩, Nat.zero_le _⟩
      rw [if_neg q] at hf; clear q
      by_cases q : z = wSave
      · rw [if_pos q] at hf; obtain rfl := Option.some.inj hf; subst q
        obtain rfl := len0 hl
        obtain rfl := av_e ha
        exact ⟨⟨i16, lineS_of (l := _) rfl rfl⟩, Nat.zero_le _⟩
      rw [if_neg q] at hf; clear q
      by_cases q : z = wForget
      · rw [if_pos q] at hf; obtain rfl := Option.some.inj hf; subst q
        obtain rfl := len0 hl
        obtain rfl := av_e ha
        exact ⟨⟨i16, lineS_of (l := _) rfl rfl⟩, Nat.zero_le _⟩
      rw [if_neg q] at hf; clear q
      by_cases q : z = wAll
      · rw [if_pos q] at hf; obtain rfl := Option.some.inj hf; subst q
        obtain rfl := len0 hl
        obtain rfl := av_e ha
        exact ⟨⟨i00, lineS_of (l := _) rfl rfl⟩, Nat.zero_le _⟩
      rw [if_neg q] at hf; clear q
      by_cases q : z = wRestart
      · rw [if_pos q] at hf; obtain rfl := Option.some.inj hf; subst q
        obtain rfl := len0 hl
        obtain rfl := av_e ha
        exact ⟨⟨i00, lineS_of (l := _) rfl rfl⟩, Nat.zero_le _⟩
      rw [if_neg q] at hf; clear q
      by_cases q : z = wRest
      · rw [if_pos q] at hf; obtain rfl := Option.some.inj hf; subst q
        obtain rfl := len0 hl
        obtain rfl := av_e ha
        exact ⟨⟨i00, lineS_of (l := _) rfl rfl⟩, Nat.zero_le _⟩
      rw [if_neg q] at hf; clear q
      by_cases q : z = wPrune
      · rw [if_pos q] at hf; obtain rfl := Option.some.inj hf; subst q
        obtain ⟨a, rfl⟩ := len1 hl
        obtain rfl := av_e (av_t ha)
        refine ⟨⟨i16, lineS_of (l := _) rfl rfl⟩, ?_⟩
        show a.s.length + ([] : Bs).length + ([] : Bs).length + ([] : Bs).length + ([] : List Bool).length ≤ _
        simp only [toksLen, List.map_cons, List.map_nil, List.sum_cons, List.sum_nil]
        simp only [List.length_nil]
        omega
      rw [if_neg q] at hf; clear q
      by_cases q : z = wShrink
      · rw [if_pos q] at hf; obtain rfl := Option.some.inj hf; subst q
        obtain ⟨a, rfl⟩ := len1 hl
        obtain rfl := av_e (av_t ha)
        refine ⟨⟨i16, lineS_of (l := _) rfl rfl⟩, ?_⟩
        show a.s.length + ([] : Bs).length + ([] : Bs).length + ([] : Bs).length + ([] : List Bool).length ≤ _
        simp only [toksLen, List.map_cons, List.map_nil, List.sum_cons, List.sum_nil]
        simp only [List.length_nil]
        omega
      rw [if_neg q] at hf; clear q
      by_cases q : z = wCrash
      · rw [if_pos q] at hf; obtain rfl := Option.some.inj hf; subst q
        obtain ⟨a, rfl⟩ := len1 hl
        obtain ⟨v, hv, ha⟩ := av_k ha
        obtain rfl := av_e ha
        have hkl := keepsS_len hv
        refine ⟨⟨i00, lineS_of (l := _) rfl rfl⟩, ?_⟩
        show ([] : Bs).length + ([] : Bs).length + ([] : Bs).length + ([] : Bs).length + v.length ≤ _
        simp only [toksLen, List.map_cons, List.map_nil, List.sum_cons, List.sum_nil]
        simp only [List.length_nil]
        omega
      rw [if_neg q] at hf; clear q
      by_cases q : z = wFuse
      · rw [if_pos q] at hf; obtain rfl := Option.some.inj hf; subst q
        obtain ⟨a, b, rfl⟩ := len2 hl
        obtain ⟨v, hv, ha⟩ := av_n ha
        obtain ⟨k, hkk, ha⟩ := av_k ha
        obtain rfl := av_e ha
        have hkl := keepsS_len hkk
        refine ⟨⟨numOf_rng hv, lineS_of (l := _) rfl rfl⟩, ?_⟩
        show ([] : Bs).length + ([] : Bs).length + ([] : Bs).length + ([] : Bs).length + k.length ≤ _
        simp only [toksLen, List.map_cons, List.map_nil, List.sum_cons, List.sum_nil]
        simp only [List.length_nil]
        omega
      rw [if_neg q] at hf; clear q
      cases hf
end Go.Gsl

namespace Go.Gsl
set_option linter.unusedVariables false
theorem words_sum : ∀ (n : Nat) (s : Bs) (l : List Tok), s.length ≤ n → wordsL s = some l → toksLen l ≤ s.length
  | n, s, l, hn, h => by
    rw [wordsL_step] at h
    have ht := trimL_len s
    cases hx : trimL s with
    | nil => rw [hx] at h; simp only at h; obtain rfl := Option.some.inj h; simp [toksLen]
    | cons x r =>
      rw [hx] at h ht
      simp only [List.length_cons] at h ht
      cases n with
      | zero => omega
      | succ n =>
      split at h
      · obtain rfl := Option.some.inj h; simp [toksLen]
      · split at h
        · cases hu : unq [] r with
          | none => rw [hu] at h; cases h
          | some p =>
            obtain ⟨t, rest⟩ := p
            rw [hu] at h
            simp only at h
            have h1 := unq_sum _ _ _ _ _ (Nat.le_refl _) hu
            simp only [List.length_nil] at h1
            cases hw : wordsL rest with
            | none => rw [hw] at h; cases h
            | some l' =>
              rw [hw] at h
              obtain rfl := Option.some.inj h
              have ih := words_sum n rest l' (by omega) hw
              simp only [toksLen, List.map_cons, List.sum_cons] at ih ⊢
              omega
        · have h1 := cutR_len 32 x r
          simp only [List.length_cons] at h1
          have h3 : (cutW 32 (x :: r)).length + (cutR 32 (x :: r)).length ≤ (x :: r).length := by
            have := congrArg List.length (List.takeWhile_append_dropWhile (p := (· != 32)) (l := x :: r))
            unfold cutW cutR
            rw [List.length_append] at this
            rw [List.length_drop]
            omega
          simp only [List.length_cons] at h3
          cases hw : wordsL (cutR 32 (x :: r)) with
          | none => rw [hw] at h; cases h
          | some l' =>
            rw [hw] at h
            obtain rfl := Option.some.inj h
            have ih := words_sum n _ l' (by omega) hw
            simp only [toksLen, List.map_cons, List.sum_cons] at ih ⊢
            omega
theorem addVals_n : ∀ (cs : Bs) (ws : List Tok) (f g : Flds), addVals f cs ws = some g → (∀ x ∈ f.n, I64 x) → ∀ x ∈ g.n, I64 x
  | [], ws, f, g, h, hf => by cases ws <;> (obtain rfl := Option.some.inj h; exact hf)
  | c :: cs, [], f, g, h, hf => by obtain rfl := Option.some.inj h; exact hf
  | c :: cs, w :: ws, f, g, h, hf => by
    rw [addVals] at h
    cases ha : addVal f c w with
    | none => rw [ha] at h; cases h
    | some f1 =>
      rw [ha] at h
      refine addVals_n cs ws f1 g h ?_
      unfold addVal at ha
      by_cases h1 : iv c = 110
      · rw [if_pos h1] at ha
        obtain ⟨v, hv, rfl⟩ := Option.map_eq_some_iff.1 ha
        intro x hx
        rcases List.mem_append.1 hx with hx | hx
        · exact hf x hx
        · simp only [List.mem_cons, List.not_mem_nil, or_false] at hx
          subst hx; exact numOf_rng hv
      · rw [if_neg h1] at ha
        by_cases h2 : iv c = 107
        · rw [if_pos h2] at ha
          obtain ⟨v, hv, rfl⟩ := Option.map_eq_some_iff.1 ha
          exact hf
        · rw [if_neg h2] at ha
          obtain rfl := Option.some.inj ha
          exact hf
theorem fits_nr {w : Tok} {ws : List Tok} {f : Flds} (h : fitsOf (w :: ws) = .ok f) : (∀ x ∈ f.n, I64 x) ∧ w.t = false := by
  unfold fitsOf at h
  simp only at h
  cases hf : formOf w.s with
  | none => rw [hf] at h; cases h
  | some cs =>
    rw [hf] at h
    simp only at h
    split at h
    · cases h
    · rename_i hno
      cases ha : addVals ⟨[], [], []⟩ cs ws with
      | none => rw [ha] at h; cases h
      | some g =>
        rw [ha] at h
        simp only [Except.ok.injEq] at h
        subst h
        refine ⟨addVals_n cs ws _ _ ha (fun x hx => by cases hx), ?_⟩
        cases hw : w.t with
        | false => rfl
        | true => exact absurd (.inl hw) hno
def sumSz (l : List Act) : Nat := (l.map Act.sz).sum
structure ScrGood (N : Nat) (r : Scr) : Prop where
  c : ∀ c, r.c = some c → c.length = 7 ∧ ∀ x ∈ c, I64 x
  a : ∀ a ∈ r.a, Printable a
  l : r.a.length ≤ 4096
  s : sumSz r.a ≤ N
theorem take_good {N : Nat} {r r' : Scr} {s : Bs} (h : takeS r s = .ok r') (hr : ScrGood N r) : ScrGood (N + s.length) r' := by
  have mono : ScrGood (N + s.length) r := ⟨hr.c, hr.a, hr.l, Nat.le_trans hr.s (Nat.le_add_right _ _)⟩
  cases hw : wordsL s with
  | none => unfold takeS at h; rw [hw] at h; cases h
  | some l =>
    cases l with
    | nil => unfold takeS at h; rw [hw] at h; simp only [Except.ok.injEq] at h; subst h; exact mono
    | cons w ws =>
      rw [take_cons' hw] at h
      have hsum := words_sum _ _ _ (Nat.le_refl _) hw
      split at h
      · cases h
      · split at h
        · cases h
        · cases hf : fitsOf (w :: ws) with
          | error e => rw [hf] at h; cases h
          | ok f =>
            rw [hf] at h
            simp only at h
            obtain ⟨hfn, hwt⟩ := fits_nr hf
            split at h
            · rename_i hst
              simp only [Except.ok.injEq] at h
              subst h
              refine ⟨fun c hc => ?_, mono.a, mono.l, mono.s⟩
              simp only [Option.some.injEq] at hc
              subst hc
              obtain ⟨z, zt⟩ := w
              simp only [Bool.and_eq_true, decide_eq_true_eq] at hst
              obtain ⟨_, rfl⟩ := hst
              exact ⟨fits_n7 hf, hfn⟩
            · rename_i hst
              split at h
              · cases h
              · rename_i hl
                simp only [Except.ok.injEq] at h
                subst h
                have hne : w.s ≠ wStore := fun g => hst (by rw [hwt, decide_eq_true g]; rfl)
                obtain ⟨hp, hz⟩ := act_good hf hne
                refine ⟨mono.c, fun a ha => ?_, ?_, ?_⟩
                · rcases List.mem_append.1 ha with ha | ha
                  · exact hr.a a ha
                  · simp only [List.mem_cons, List.not_mem_nil, or_false] at ha
                    subst ha; exact hp
                · simp only [List.length_append, List.length_cons, List.length_nil]; omega
                · have h1 := hr.s
                  simp only [toksLen, List.map_cons, List.sum_cons] at hsum hz
                  simp only [sumSz, List.map_append, List.sum_append, List.map_cons, List.map_nil, List.sum_cons, List.sum_nil] at h1 ⊢
                  omega
theorem cut_sum (d : UInt8) (s : Bs) : (cutW d s).length + (cutR d s).length ≤ s.length := by
  have := congrArg List.length (List.takeWhile_append_dropWhile (p := (· != d)) (l := s))
  unfold cutW cutR
  rw [List.length_append] at this
  rw [List.length_drop]
  omega
theorem parseF_good : ∀ (f : Nat) (N : Nat) (r r' : Scr) (n n' : Int) (s : Bs), parseF f r n s = .ok (r', n') → ScrGood N r → ScrGood (N + s.length) r'
  | 0, N, r, r', n, n', s, h, hr => by
    simp only [parseF, Except.ok.injEq, Prod.mk.injEq] at h
    rw [← h.1]; exact ⟨hr.c, hr.a, hr.l, Nat.le_trans hr.s (Nat.le_add_right _ _)⟩
  | f + 1, N, r, r', n, n', s, h, hr => by
    rw [parseF] at h
    by_cases h0 : s = []
    · rw [if_pos h0] at h
      simp only [Except.ok.injEq, Prod.mk.injEq] at h
      rw [← h.1]; exact ⟨hr.c, hr.a, hr.l, Nat.le_trans hr.s (Nat.le_add_right _ _)⟩
    · rw [if_neg h0] at h
      cases ht : takeS r (cutW 10 s) with
      | error e => rw [ht] at h; cases h
      | ok r1 =>
        rw [ht] at h
        have h1 := cut_sum 10 s
        have h2 := parseF_good f _ r1 r' (n + 1) n' _ h (take_good ht hr)
        exact ⟨h2.c, h2.a, h2.l, by have := h2.s; omega⟩
theorem parse_good {s : Bs} {r : Scr} (h : parseS s = .ok r) : ScrGood s.length r := by
  unfold parseS at h
  cases hp : parseF (s.length + 1) ⟨none, []⟩ 0 s with
  | error e => rw [hp] at h; cases h
  | ok q =>
    obtain ⟨r1, n⟩ := q
    rw [hp] at h
    simp only at h
    split at h
    · cases h
    · simp only [Except.ok.injEq] at h
      subst h
      have := parseF_good _ 0 _ _ _ _ _ hp ⟨fun c h => (by cases h), fun a h => (by cases h), Nat.zero_le _, Nat.le_refl _⟩
      rwa [Nat.zero_add] at this
theorem parse_pos {s : Bs} {er n : Int} (h : parseS s = .error (er, n)) : 0 < n := by
  have key : ∀ (f : Nat) (r : Scr) (k er n : Int) (s : Bs), 0 ≤ k → parseF f r k s = .error (er, n) → 0 < n := by
    intro f
    induction f with
    | zero => intro r k er n s _ h; cases h
    | succ f ih =>
      intro r k er n s hk h
      rw [parseF] at h
      by_cases h0 : s = []
      · rw [if_pos h0] at h; cases h
      · rw [if_neg h0] at h
        cases ht : takeS r (cutW 10 s) with
        | error e => rw [ht] at h; simp only [Except.error.injEq, Prod.mk.injEq] at h; omega
        | ok r1 => rw [ht] at h; exact ih r1 (k + 1) er n _ (by omega) h
  unfold parseS at h
  cases hp : parseF (s.length + 1) ⟨none, []⟩ 0 s with
  | error q =>
    rw [hp] at h
    simp only [Except.error.injEq] at h
    subst h
    exact key _ _ _ _ _ _ (Int.le_refl _) hp
  | ok q =>
    obtain ⟨r1, m⟩ := q
    rw [hp] at h
    simp only at h
    split at h
    · simp only [Except.error.injEq, Prod.mk.injEq] at h; omega
    · cases h
theorem linesS_of : ∀ {l : List Act}, (∀ a ∈ l, Printable a) → ∃ xs, linesS l = some xs
  | [], _ => ⟨[], rfl⟩
  | a :: l, h => by
    obtain ⟨_, s, hs⟩ := h a (by simp)
    obtain ⟨xs, hx⟩ := linesS_of (l := l) (fun b hb => h b (by simp [hb]))
    exact ⟨s :: xs, by simp only [linesS, hs, Option.bind_some, hx, Option.map_some]⟩
theorem lineS_sz {a : Act} {s : Bs} (h : lineS a = some s) (hs : a.small) : s.length ≤ 4 * a.sz + 60 := by
  obtain ⟨l, h1, _, rfl⟩ := lineS_parts h
  obtain ⟨h0, g1, g2, g3, g4, g5⟩ := hs
  have := line_len h1 g1 g2 g3 g4 g5 h0
  unfold Act.sz Call.sz
  omega
theorem lines_sum : ∀ {l : List Act} {xs : List Bs}, linesS l = some xs → (∀ a ∈ l, a.small) → (xs.map fun s => s.length + 1).sum ≤ 4 * sumSz l + 61 * l.length
  | [], xs, h, _ => by obtain rfl := Option.some.inj h; simp
  | a :: l, xs, h, hs => by
    simp only [linesS] at h
    cases ha : lineS a with
    | none => rw [ha] at h; cases h
    | some s =>
      rw [ha] at h
      simp only [Option.bind_some] at h
      obtain ⟨ys, hy, rfl⟩ := Option.map_eq_some_iff.1 h
      have ih := lines_sum hy (fun b hb => hs b (by simp [hb]))
      have h1 := lineS_sz ha (hs a (by simp))
      simp only [sumSz, List.map_cons, List.sum_cons, List.length_cons] at ih ⊢
      omega
theorem print_len {c0 c1 c2 c3 c4 c5 c6 : Int} {l : List Act} {b : Bs} (h : printS [c0, c1, c2, c3, c4, c5, c6] l = .ok b) (h0 : I64 c0) (h1 : I64 c1) (h2 : I64 c2) (h3 : I64 c3) (h4 : I64 c4) (h5 : I64 c5) (h6 : I64 c6) (hs : ∀ a ∈ l, a.small) :
    b.length ≤ 4 * sumSz l + 61 * l.length + 210 := by
  unfold printS at h
  cases hx : linesS l with
  | none => rw [hx] at h; cases h
  | some xs =>
    rw [hx] at h
    simp only at h
    split at h
    · cases h
    · simp only [Except.ok.injEq] at h
      subst h
      have h7 := join_len 10 (headS [c0, c1, c2, c3, c4, c5, c6] :: xs ++ [[]])
      have h8 := lines_sum hx hs
      have h9 := head_len c0 c1 c2 c3 c4 c5 c6 h0 h1 h2 h3 h4 h5 h6
      simp only [List.cons_append] at h7 ⊢
      simp only [List.map_cons, List.map_append, List.map_nil, List.sum_cons, List.sum_append, List.sum_nil, List.length_nil] at h7
      omega
theorem sz_le : ∀ {l : List Act} {a : Act}, a ∈ l → a.sz ≤ sumSz l
  | b :: l, a, h => by
    rcases List.mem_cons.1 h with rfl | h
    · simp only [sumSz, List.map_cons, List.sum_cons]; omega
    · have := sz_le h; simp only [sumSz, List.map_cons, List.sum_cons] at this ⊢; omega
end Go.Gsl
