/- Scripts: the plain law of words, texts, forms, numbers (plain Lean). -/
import Derived.Test.YtjfieigjicbldaaDoorGG
import Derived.Lib.AtoiAll
import Derived.Lib.ItoaNum
import Derived.Lib.Bytealg
import Derived.Lib.IndexMore
namespace Go.Gsl
set_option linter.unusedVariables false

/-- the signs of numbers of base 16 -/
def digs : Bs := [48, 49, 50, 51, 52, 53, 54, 55, 56, 57, 97, 98, 99, 100, 101, 102]
def digAt (k : Int) : UInt8 := digs.getD k.toNat 48
/-- a byte of a text as it stands in a word -/
def quoteC (b : UInt8) : Bs :=
  if iv b = 34 ∨ iv b = 92 then [92, b]
  else if iv b < 32 ∨ 126 < iv b then [92, 120, digAt (iv b / 16), digAt (iv b % 16)]
  else [b]
def quoteS (s : Bs) : Bs := 34 :: (s.flatMap quoteC) ++ [34]

/-- a text behind its first sign: it, and what is left -/
def unq (acc : Bs) : Bs → Option (Bs × Bs)
  | [] => none
  | x :: r =>
    if iv x = 34 then (if r = [] ∨ r.head? = some 32 then some (acc, r) else none)
    else if iv x ≠ 92 then unq (acc ++ [x]) r
    else match r with
      | [] => none
      | y :: r1 =>
        if iv y = 34 ∨ iv y = 92 then unq (acc ++ [y]) r1
        else match r1 with
          | h :: l :: r2 =>
            if iv y = 120 then
              (if Lib.indexByte digs h < 0 ∨ Lib.indexByte digs l < 0 then none
               else unq (acc ++ [UInt8.ofNat (16 * (Lib.indexByte digs h).toNat + (Lib.indexByte digs l).toNat)]) r2)
            else none
          | _ => none

/-- a word -/
structure Tok where
  s : Bs
  t : Bool
  deriving DecidableEq
def trimL (s : Bs) : Bs := s.dropWhile (· == 32)
def cutW (c : UInt8) (s : Bs) : Bs := s.takeWhile (· != c)
def cutR (c : UInt8) (s : Bs) : Bs := (s.dropWhile (· != c)).drop 1
def wordsF : Nat → Bs → Option (List Tok)
  | 0, _ => some []
  | f + 1, s =>
    match trimL s with
    | [] => some []
    | x :: r =>
      if iv x = 35 then some []
      else if iv x = 34 then
        (match unq [] r with
        | none => none
        | some (t, rest) => (wordsF f rest).map (⟨t, true⟩ :: ·))
      else (wordsF f (cutR 32 (x :: r))).map (⟨cutW 32 (x :: r), false⟩ :: ·)
/-- a line's words; none: a text in it is none -/
def wordsL (s : Bs) : Option (List Tok) := wordsF (s.length + 1) s

theorem unq_cons (acc : Bs) (x : UInt8) (r : Bs) : unq acc (x :: r) =
    (if iv x = 34 then (if r = [] ∨ r.head? = some 32 then some (acc, r) else none)
    else if iv x ≠ 92 then unq (acc ++ [x]) r
    else match r with
      | [] => none
      | y :: r1 =>
        if iv y = 34 ∨ iv y = 92 then unq (acc ++ [y]) r1
        else match r1 with
          | h :: l :: r2 =>
            if iv y = 120 then
              (if Lib.indexByte digs h < 0 ∨ Lib.indexByte digs l < 0 then none
               else unq (acc ++ [UInt8.ofNat (16 * (Lib.indexByte digs h).toNat + (Lib.indexByte digs l).toNat)]) r2)
            else none
          | _ => none) := by
  rw [unq.eq_def]
  cases r with
  | nil => rfl
  | cons y r =>
    cases r with
    | nil => rfl
    | cons h r => cases r <;> rfl
theorem unq_len : ∀ (n : Nat) (acc s t r : Bs), s.length ≤ n → unq acc s = some (t, r) → r.length < s.length
  | 0, acc, s, t, r, hl, h => by
    have : s = [] := List.length_eq_zero_iff.1 (by omega)
    subst this; simp [unq] at h
  | n + 1, acc, [], t, r, hl, h => by simp [unq] at h
  | n + 1, acc, x :: s, t, r, hl, h => by
    rw [unq_cons] at h
    simp only [List.length_cons] at hl ⊢
    split at h
    · split at h
      · simp only [Option.some.injEq, Prod.mk.injEq] at h; rw [← h.2]; omega
      · cases h
    · split at h
      · have := unq_len n _ _ _ _ (by omega) h; omega
      · cases s with
        | nil => cases h
        | cons y s =>
          simp only [List.length_cons] at hl ⊢
          simp only at h
          split at h
          · have := unq_len n _ _ _ _ (by omega) h; omega
          · cases s with
            | nil => cases h
            | cons a s =>
              cases s with
              | nil => cases h
              | cons b s =>
                simp only [List.length_cons] at hl ⊢
                simp only at h
                split at h
                · split at h
                  · cases h
                  · have := unq_len n _ _ _ _ (by omega) h; omega
                · cases h

theorem trimL_len (s : Bs) : (trimL s).length ≤ s.length := List.Sublist.length_le (List.dropWhile_sublist _)
theorem cutR_len (c : UInt8) (x : UInt8) (s : Bs) : (cutR c (x :: s)).length < (x :: s).length := by
  unfold cutR
  have := List.Sublist.length_le (List.dropWhile_sublist (l := x :: s) (· != c))
  rw [List.length_drop]
  by_cases h : ((x :: s).dropWhile (· != c)).length = 0
  · rw [h]; simp
  · omega

theorem wordsF_fuel : ∀ (f g : Nat) (s : Bs), s.length < f → s.length < g → wordsF f s = wordsF g s
  | 0, _, _, h, _ => by omega
  | _ + 1, 0, _, _, h => by omega
  | f + 1, g + 1, s, h1, h2 => by
    unfold wordsF
    have ht := trimL_len s
    cases hx : trimL s with
    | nil => rfl
    | cons x r =>
      rw [hx] at ht
      simp only [List.length_cons] at ht
      simp only
      split
      · rfl
      · split
        · cases hu : unq [] r with
          | none => rfl
          | some p =>
            obtain ⟨t, rest⟩ := p
            have := unq_len _ _ _ _ _ (Nat.le_refl _) hu
            simp only
            rw [wordsF_fuel f g rest (by omega) (by omega)]
        · have := cutR_len 32 x r
          simp only [List.length_cons] at this
          rw [wordsF_fuel f g _ (by omega) (by omega)]

/-- the first word, and what is behind it -/
theorem wordsL_step (s : Bs) : wordsL s = (match trimL s with
    | [] => some []
    | x :: r =>
      if iv x = 35 then some []
      else if iv x = 34 then
        (match unq [] r with
        | none => none
        | some (t, rest) => (wordsL rest).map (⟨t, true⟩ :: ·))
      else (wordsL (cutR 32 (x :: r))).map (⟨cutW 32 (x :: r), false⟩ :: ·)) := by
  unfold wordsL
  rw [wordsF]
  have ht := trimL_len s
  cases hx : trimL s with
  | nil => rfl
  | cons x r =>
    rw [hx] at ht
    simp only [List.length_cons] at ht
    simp only
    split
    · rfl
    · split
      · cases hu : unq [] r with
        | none => rfl
        | some p =>
          obtain ⟨t, rest⟩ := p
          have := unq_len _ _ _ _ _ (Nat.le_refl _) hu
          simp only
          rw [wordsF_fuel s.length (rest.length + 1) rest (by omega) (by omega)]
      · have := cutR_len 32 x r
        simp only [List.length_cons] at this
        rw [wordsF_fuel s.length ((cutR 32 (x :: r)).length + 1) _ (by omega) (by omega)]
end Go.Gsl

namespace Go.Gsl
set_option linter.unusedVariables false

def wStore : Bs := [115, 116, 111, 114, 101]
def wBegin : Bs := [98, 101, 103, 105, 110]
def wGet : Bs := [103, 101, 116]
def wDelete : Bs := [100, 101, 108, 101, 116, 101]
def wPut : Bs := [112, 117, 116]
def wScan : Bs := [115, 99, 97, 110]
def wCommit : Bs := [99, 111, 109, 109, 105, 116]
def wAbort : Bs := [97, 98, 111, 114, 116]
def wStep : Bs := [115, 116, 101, 112]
def wPick : Bs := [112, 105, 99, 107]
def wRun : Bs := [114, 117, 110]
def wEpoch : Bs := [101, 112, 111, 99, 104]
def wSave : Bs := [115, 97, 118, 101]
def wForget : Bs := [102, 111, 114, 103, 101, 116]
def wAll : Bs := [97, 108, 108]
def wRestart : Bs := [114, 101, 115, 116, 97, 114, 116]
def wRest : Bs := [114, 101, 115, 116]
def wPrune : Bs := [112, 114, 117, 110, 101]
def wShrink : Bs := [115, 104, 114, 105, 110, 107]
def wCrash : Bs := [99, 114, 97, 115, 104]
def wFuse : Bs := [102, 117, 115, 101]
def wSnapshot : Bs := [115, 110, 97, 112, 115, 104, 111, 116]
def wSerial : Bs := [115, 101, 114, 105, 97, 108]

/-- what a line must have behind its first word: n (110), w (119), t (116), k (107) -/
def formOf (s : Bs) : Option Bs :=
  if s = wStore then some [110, 110, 110, 110, 110, 110, 110]
  else if s = wBegin then some [110, 119]
  else if s = wGet then some [110, 116]
  else if s = wDelete then some [110, 116]
  else if s = wPut then some [110, 116, 116]
  else if s = wScan then some [110, 116, 116]
  else if s = wCommit then some [110]
  else if s = wAbort then some [110]
  else if s = wStep then some [110]
  else if s = wPick then some [110]
  else if s = wRun then some [110]
  else if s = wEpoch then some []
  else if s = wSave then some []
  else if s = wForget then some []
  else if s = wAll then some []
  else if s = wRestart then some []
  else if s = wRest then some []
  else if s = wPrune then some [116]
  else if s = wShrink then some [116]
  else if s = wCrash then some [107]
  else if s = wFuse then some [110, 107]
  else none

/-- a word's number -/
def numOf (s : Bs) : Option Int :=
  match Lib.atoiAll s with
  | .ok v => if Lib.itoa v = s then some v else none
  | _ => none
/-- a word's keeps -/
def keepsS (s : Bs) : Option (List Bool) :=
  if s = [45] then some []
  else if s.all (fun c => iv c = 48 || iv c = 49) then some (s.map fun c => decide (iv c = 49)) else none

/-- a line's values -/
structure Flds where
  n : List Int
  t : List Bs
  k : List Bool
/-- a word of a kind -/
def kindOk (c : UInt8) (w : Tok) : Bool := (w.t == decide (iv c = 116)) && (!(decide (iv c = 119)) || decide (w.s = wSnapshot) || decide (w.s = wSerial))
def addVal (f : Flds) (c : UInt8) (w : Tok) : Option Flds :=
  if iv c = 110 then (numOf w.s).map fun v => { f with n := f.n ++ [v] }
  else if iv c = 107 then (keepsS w.s).map fun k => { f with k := k }
  else some { f with t := f.t ++ [w.s] }
def addVals : Flds → Bs → List Tok → Option Flds
  | f, c :: cs, w :: ws => (addVal f c w).bind fun f => addVals f cs ws
  | f, _, _ => some f
/-- a line's values, or what is wrong: 260 (its form), 262 (a number) -/
def fitsOf (l : List Tok) : Except Int Flds :=
  match l with
  | [] => .error 260
  | w :: ws =>
    match formOf w.s with
    | none => .error 260
    | some cs =>
      if w.t ∨ ws.length ≠ cs.length ∨ ¬ (List.zip cs ws).all (fun p => kindOk p.1 p.2) then .error 260
      else match addVals ⟨[], [], []⟩ cs ws with
        | none => .error 262
        | some f => .ok f

structure Call where
  kind : Int
  level : Int
  key : Bs
  value : Bs
  low : Bs
  high : Bs
  deriving DecidableEq
structure Act where
  d : Int
  n : Int
  c : Call
  k : List Bool
  deriving DecidableEq
def noCall : Call := ⟨0, 0, [], [], [], []⟩
/-- a line's act -/
def actOf (s : Bs) (f : Flds) : Act :=
  let n := f.n.headD 0
  let t0 := f.t.headD []
  let t1 := f.t.getD 1 []
  let call (c : Call) : Act := ⟨1, n, c, f.k⟩
  let own (c : Call) : Act := ⟨1, 16, c, []⟩
  let does (d : Int) : Act := ⟨d, n, noCall, f.k⟩
  if s = wBegin then call { noCall with kind := 1, level := if t0 = wSerial then 2 else 1 }
  else if s = wGet then call { noCall with kind := 2, key := t0 }
  else if s = wPut then call { noCall with kind := 3, key := t0, value := t1 }
  else if s = wDelete then call { noCall with kind := 4, key := t0 }
  else if s = wScan then call { noCall with kind := 5, low := t0, high := t1 }
  else if s = wCommit then call { noCall with kind := 6 }
  else if s = wAbort then call { noCall with kind := 7 }
  else if s = wEpoch then own { noCall with kind := 8 }
  else if s = wPrune then own { noCall with kind := 9, key := t0 }
  else if s = wShrink then own { noCall with kind := 10, key := t0 }
  else if s = wSave then own { noCall with kind := 11 }
  else if s = wForget then own { noCall with kind := 12 }
  else if s = wStep then does 2
  else if s = wPick then does 3
  else if s = wRun then does 4
  else if s = wAll then does 5
  else if s = wCrash then does 6
  else if s = wFuse then does 7
  else if s = wRestart then does 8
  else does 9

/-- a script that is read -/
structure Scr where
  c : Option (List Int)
  a : List Act
/-- a line is taken; or what is wrong: 261 (a text), 263 (no head), 260, 262, 3 (too many) -/
def takeS (r : Scr) (s : Bs) : Except Int Scr :=
  match wordsL s with
  | none => .error 261
  | some [] => .ok r
  | some (w :: ws) =>
    let store := decide (w = ⟨wStore, false⟩)
    if r.c.isNone ∧ store = false then .error 263
    else if r.c.isSome ∧ store = true then .error 260
    else match fitsOf (w :: ws) with
      | .error e => .error e
      | .ok f =>
        if store then .ok { r with c := some f.n }
        else if 4096 ≤ r.a.length then .error 3
        else .ok { r with a := r.a ++ [actOf w.s f] }
/-- the lines: what was read, how many lines -/
def parseF : Nat → Scr → Int → Bs → Except (Int × Int) (Scr × Int)
  | 0, r, n, _ => .ok (r, n)
  | f + 1, r, n, s =>
    if s = [] then .ok (r, n)
    else match takeS r (cutW 10 s) with
      | .error e => .error (e, n + 1)
      | .ok r => parseF f r (n + 1) (cutR 10 s)
def parseS (s : Bs) : Except (Int × Int) Scr :=
  match parseF (s.length + 1) ⟨none, []⟩ 0 s with
  | .error e => .error e
  | .ok (r, n) => if r.c.isNone then .error (263, max 1 n) else .ok r
end Go.Gsl

namespace Go.Gsl
set_option linter.unusedVariables false

def cntN (cs : Bs) : Nat := (cs.filter fun c => decide (iv c = 110)).length
def cntT (cs : Bs) : Nat := (cs.filter fun c => !decide (iv c = 110) && !decide (iv c = 107)).length
theorem addVals_len : ∀ (cs : Bs) (ws : List Tok) (f g : Flds), ws.length = cs.length → addVals f cs ws = some g → g.n.length = f.n.length + cntN cs ∧ g.t.length = f.t.length + cntT cs
  | [], ws, f, g, hl, h => by
    have : ws = [] := List.length_eq_zero_iff.1 hl
    subst this
    rw [addVals] at h
    · obtain rfl := Option.some.inj h
      simp [cntN, cntT]
    · intro c cs w ws h; cases h
  | c :: cs, [], f, g, hl, h => by simp at hl
  | c :: cs, w :: ws, f, g, hl, h => by
    rw [addVals] at h
    cases ha : addVal f c w with
    | none => rw [ha] at h; cases h
    | some f1 =>
      rw [ha] at h
      simp only [Option.bind_some] at h
      have ih := addVals_len cs ws f1 g (by simpa using hl) h
      unfold addVal at ha
      by_cases h1 : iv c = 110
      · rw [if_pos h1] at ha
        cases hn : numOf w.s with
        | none => rw [hn] at ha; cases ha
        | some v =>
          rw [hn] at ha
          obtain rfl := Option.some.inj ha
          have e1 : cntN (c :: cs) = cntN cs + 1 := by unfold cntN; rw [List.filter_cons, if_pos (by simpa using h1)]; rfl
          have e2 : cntT (c :: cs) = cntT cs := by unfold cntT; rw [List.filter_cons, if_neg (by simp [h1])]
          simp only [List.length_append, List.length_cons, List.length_nil] at ih
          rw [e1, e2]; omega
      · rw [if_neg h1] at ha
        have e1 : cntN (c :: cs) = cntN cs := by unfold cntN; rw [List.filter_cons, if_neg (by simpa using h1)]
        by_cases h2 : iv c = 107
        · rw [if_pos h2] at ha
          have e2 : cntT (c :: cs) = cntT cs := by unfold cntT; rw [List.filter_cons, if_neg (by simp [h2])]
          cases hk : keepsS w.s with
          | none => rw [hk] at ha; cases ha
          | some v =>
            rw [hk] at ha
            obtain rfl := Option.some.inj ha
            rw [e1, e2]; exact ih
        · rw [if_neg h2] at ha
          obtain rfl := Option.some.inj ha
          have e2 : cntT (c :: cs) = cntT cs + 1 := by unfold cntT; rw [List.filter_cons, if_pos (by simp [h1, h2])]; rfl
          simp only [List.length_append, List.length_cons, List.length_nil] at ih
          rw [e1, e2]; omega
theorem fits_form {w : Tok} {ws : List Tok} {f : Flds} (h : fitsOf (w :: ws) = .ok f) : ∃ cs, formOf w.s = some cs ∧ f.n.length = cntN cs ∧ f.t.length = cntT cs := by
  unfold fitsOf at h
  simp only at h
  cases hf : formOf w.s with
  | none => rw [hf] at h; cases h
  | some cs =>
    rw [hf] at h
    simp only at h
    split at h
    · cases h
    · rename_i hc
      cases ha : addVals ⟨[], [], []⟩ cs ws with
      | none => rw [ha] at h; cases h
      | some g =>
        rw [ha] at h
        simp only at h
        cases h
        have := addVals_len cs ws _ _ (by
          by_cases hl : ws.length = cs.length
          · exact hl
          · exact absurd (.inr (.inl hl)) hc) ha
        refine ⟨cs, rfl, ?_, ?_⟩
        · rw [this.1]; simp
        · rw [this.2]; simp
theorem fits_n7 {ws : List Tok} {f : Flds} {t : Bool} (h : fitsOf (⟨wStore, t⟩ :: ws) = .ok f) : f.n.length = 7 := by
  obtain ⟨cs, h1, h2, _⟩ := fits_form h
  have : formOf wStore = some [110, 110, 110, 110, 110, 110, 110] := by decide +kernel
  simp only at h1
  rw [this] at h1
  obtain rfl := Option.some.inj h1
  rw [h2]; decide +kernel
theorem fits_t1 {w : Tok} {ws : List Tok} {f : Flds} (h : fitsOf (w :: ws) = .ok f) (hs : w.s = wBegin ∨ w.s = wGet ∨ w.s = wDelete ∨ w.s = wPrune ∨ w.s = wShrink) : 1 ≤ f.t.length := by
  obtain ⟨cs, h1, _, h2⟩ := fits_form h
  have key : ∀ s ∈ [wBegin, wGet, wDelete, wPrune, wShrink], ∃ cs, formOf s = some cs ∧ 1 ≤ cntT cs := by
    intro s hs
    simp only [List.mem_cons, List.not_mem_nil, or_false] at hs
    rcases hs with rfl | rfl | rfl | rfl | rfl
    · exact ⟨[110, 119], by decide +kernel, by decide +kernel⟩
    · exact ⟨[110, 116], by decide +kernel, by decide +kernel⟩
    · exact ⟨[110, 116], by decide +kernel, by decide +kernel⟩
    · exact ⟨[116], by decide +kernel, by decide +kernel⟩
    · exact ⟨[116], by decide +kernel, by decide +kernel⟩
  obtain ⟨cs', h3, h4⟩ := key w.s (by simpa using hs)
  rw [h3] at h1
  obtain rfl := Option.some.inj h1
  omega
theorem fits_t2 {w : Tok} {ws : List Tok} {f : Flds} (h : fitsOf (w :: ws) = .ok f) (hs : w.s = wPut ∨ w.s = wScan) : 2 ≤ f.t.length := by
  obtain ⟨cs, h1, _, h2⟩ := fits_form h
  have h3 : formOf w.s = some [110, 116, 116] := by rcases hs with h | h <;> rw [h] <;> decide +kernel
  rw [h3] at h1
  obtain rfl := Option.some.inj h1
  have : cntT [110, 116, 116] = 2 := by decide +kernel
  omega

theorem unq_sum : ∀ (n : Nat) (acc s t r : Bs), s.length ≤ n → unq acc s = some (t, r) → t.length + r.length < acc.length + s.length
  | 0, acc, s, t, r, hl, h => by
    have : s = [] := List.length_eq_zero_iff.1 (by omega)
    subst this; simp [unq] at h
  | n + 1, acc, [], t, r, hl, h => by simp [unq] at h
  | n + 1, acc, x :: s, t, r, hl, h => by
    rw [unq_cons] at h
    simp only [List.length_cons] at hl ⊢
    split at h
    · split at h
      · simp only [Option.some.injEq, Prod.mk.injEq] at h; rw [← h.1, ← h.2]; omega
      · cases h
    · split at h
      · have := unq_sum n _ _ _ _ (by omega) h; simp only [List.length_append, List.length_cons, List.length_nil] at this; omega
      · cases s with
        | nil => cases h
        | cons y s =>
          simp only [List.length_cons] at hl ⊢
          simp only at h
          split at h
          · have := unq_sum n _ _ _ _ (by omega) h; simp only [List.length_append, List.length_cons, List.length_nil] at this; omega
          · cases s with
            | nil => cases h
            | cons a s =>
              cases s with
              | nil => cases h
              | cons b s =>
                simp only [List.length_cons] at hl ⊢
                simp only at h
                split at h
                · split at h
                  · cases h
                  · have := unq_sum n _ _ _ _ (by omega) h; simp only [List.length_append, List.length_cons, List.length_nil] at this; omega
                · cases h
theorem cutW_len (c : UInt8) (s : Bs) : (cutW c s).length ≤ s.length := List.Sublist.length_le (List.takeWhile_sublist _)
theorem words_bound : ∀ (n : Nat) (s : Bs) (l : List Tok), s.length ≤ n → wordsL s = some l → l.length ≤ s.length ∧ ∀ x ∈ l, x.s.length ≤ s.length
  | n, s, l, hn, h => by
    rw [wordsL_step] at h
    have ht := trimL_len s
    cases hx : trimL s with
    | nil => rw [hx] at h; simp only at h; obtain rfl := Option.some.inj h; exact ⟨Nat.zero_le _, fun x hx => by cases hx⟩
    | cons x r =>
      rw [hx] at h ht
      simp only [List.length_cons] at h ht
      cases n with
      | zero => omega
      | succ n =>
      split at h
      · obtain rfl := Option.some.inj h; exact ⟨Nat.zero_le _, fun x hx => by cases hx⟩
      · split at h
        · cases hu : unq [] r with
          | none => rw [hu] at h; cases h
          | some p =>
            obtain ⟨t, rest⟩ := p
            rw [hu] at h
            simp only at h
            have h1 := unq_sum _ _ _ _ _ (Nat.le_refl _) hu
            simp only [List.length_nil] at h1
            cases hw : wordsL rest with
            | none => rw [hw] at h; cases h
            | some l' =>
              rw [hw] at h
              obtain rfl := Option.some.inj h
              have ih := words_bound n rest l' (by omega) hw
              refine ⟨by simp only [List.length_cons]; omega, fun y hy => ?_⟩
              rcases List.mem_cons.1 hy with rfl | hy
              · show t.length ≤ _; omega
              · have := ih.2 y hy; omega
        · have h1 := cutR_len 32 x r
          have h2 := cutW_len 32 (x :: r)
          simp only [List.length_cons] at h1 h2
          cases hw : wordsL (cutR 32 (x :: r)) with
          | none => rw [hw] at h; cases h
          | some l' =>
            rw [hw] at h
            obtain rfl := Option.some.inj h
            have ih := words_bound n _ l' (by omega) hw
            refine ⟨by simp only [List.length_cons]; omega, fun y hy => ?_⟩
            rcases List.mem_cons.1 hy with rfl | hy
            · show (cutW 32 (x :: r)).length ≤ _; omega
            · have := ih.2 y hy; omega

theorem parseF_fuel : ∀ (f g : Nat) (r : Scr) (n : Int) (s : Bs), s.length < f → s.length < g → parseF f r n s = parseF g r n s
  | 0, _, _, _, _, h, _ => by omega
  | _ + 1, 0, _, _, _, _, h => by omega
  | f + 1, g + 1, r, n, s, h1, h2 => by
    unfold parseF
    by_cases hs : s = []
    · rw [if_pos hs, if_pos hs]
    · rw [if_neg hs, if_neg hs]
      cases takeS r (cutW 10 s) with
      | error e => rfl
      | ok r' =>
        simp only
        cases s with
        | nil => exact absurd rfl hs
        | cons x s =>
          have := cutR_len 10 x s
          exact parseF_fuel f g r' (n + 1) _ (by omega) (by omega)
def parseR (r : Scr) (n : Int) (s : Bs) : Except (Int × Int) (Scr × Int) := parseF (s.length + 1) r n s
theorem parseR_nil (r : Scr) (n : Int) : parseR r n [] = .ok (r, n) := rfl
theorem parseR_step (r : Scr) (n : Int) (s : Bs) (hs : ¬ s = []) : parseR r n s = (match takeS r (cutW 10 s) with
    | .error e => .error (e, n + 1)
    | .ok r => parseR r (n + 1) (cutR 10 s)) := by
  unfold parseR
  rw [parseF, if_neg hs]
  cases takeS r (cutW 10 s) with
  | error e => rfl
  | ok r' =>
    simp only
    cases s with
    | nil => exact absurd rfl hs
    | cons x s =>
      have := cutR_len 10 x s
      exact parseF_fuel _ _ r' (n + 1) _ (by omega) (by omega)
theorem parseS_eq (s : Bs) : parseS s = (match parseR ⟨none, []⟩ 0 s with
  | .error e => .error e
  | .ok (r, n) => if r.c.isNone then .error (263, max 1 n) else .ok r) := rfl
end Go.Gsl
