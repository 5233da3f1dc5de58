/- Comments, empty lines and more blanks (plain Lean). -/
import Derived.Test.YtjfieigjicbldaaDoorGNC
import Derived.Lib.SplitLaws
import Derived.Lib.IndexBytes
namespace Go.Gsl
set_option linter.unusedVariables false

theorem unq_sp : ∀ (n : Nat) (acc s : Bs), s.length ≤ n → unq acc (s ++ [32]) = (unq acc s).map fun p => (p.1, p.2 ++ [32])
  | _, acc, [], _ => by
    rw [List.nil_append, unq_cons, if_neg (by decide), if_pos (by decide)]; rfl
  | 0, acc, x :: r, h => by simp at h
  | n + 1, acc, x :: r, h => by
    have hr : r.length ≤ n := by simpa using h
    rw [List.cons_append, unq_cons, unq_cons]
    by_cases h1 : iv x = 34
    · rw [if_pos h1, if_pos h1]
      have : (r ++ [32] = [] ∨ (r ++ [32]).head? = some 32) ↔ (r = [] ∨ r.head? = some 32) := by
        cases r with
        | nil => simp
        | cons a r => simp
      by_cases h2 : r = [] ∨ r.head? = some 32
      · rw [if_pos (this.2 h2), if_pos h2]; rfl
      · rw [if_neg (fun g => h2 (this.1 g)), if_neg h2]; rfl
    · rw [if_neg h1, if_neg h1]
      by_cases h2 : iv x ≠ 92
      · rw [if_pos h2, if_pos h2]; exact unq_sp n _ r hr
      · rw [if_neg h2, if_neg h2]
        cases r with
        | nil =>
          show (if iv 32 = 34 ∨ iv 32 = 92 then _ else _) = _
          rw [if_neg (by decide)]; rfl
        | cons y r1 =>
          simp only [List.cons_append]
          by_cases h3 : iv y = 34 ∨ iv y = 92
          · rw [if_pos h3, if_pos h3]; exact unq_sp n _ r1 (by simp at hr; omega)
          · rw [if_neg h3, if_neg h3]
            cases r1 with
            | nil => rfl
            | cons a r2 =>
              cases r2 with
              | nil =>
                show (if iv y = 120 then (if Lib.indexByte digs a < 0 ∨ Lib.indexByte digs 32 < 0 then none else _) else none) = none
                by_cases h4 : iv y = 120
                · rw [if_pos h4, if_pos (.inr (by decide))]
                · rw [if_neg h4]
              | cons b r3 =>
                simp only [List.cons_append]
                by_cases h4 : iv y = 120
                · rw [if_pos h4, if_pos h4]
                  by_cases h5 : Lib.indexByte digs a < 0 ∨ Lib.indexByte digs b < 0
                  · rw [if_pos h5, if_pos h5]; rfl
                  · rw [if_neg h5, if_neg h5]; exact unq_sp n _ r3 (by simp at hr; omega)
                · rw [if_neg h4, if_neg h4]; rfl
theorem words_sp : ∀ (n : Nat) (s : Bs), s.length ≤ n → wordsL (s ++ [32]) = wordsL s
  | _, [], _ => by rw [List.nil_append, ws_sp]
  | 0, x :: r, h => by simp at h
  | n + 1, c :: r, h => by
    have hr : r.length ≤ n := by simpa using h
    rw [List.cons_append]
    by_cases h0 : c = 32
    · subst h0; rw [ws_sp, ws_sp]; exact words_sp n r hr
    by_cases h1 : c = 35
    · subst h1; rw [ws_hash2, ws_hash2]
    by_cases h2 : c = 34
    · subst h2
      rw [ws_txt, ws_txt, unq_sp _ [] r (Nat.le_refl _)]
      cases hu : unq [] r with
      | none => rfl
      | some p =>
        obtain ⟨t, rest⟩ := p
        have hl := unq_len _ [] r t rest (Nat.le_refl _) hu
        simp only [Option.map_some]
        rw [words_sp n rest (by omega)]
    · have i0 : iv c ≠ 32 := fun g => h0 (iv_inj g)
      have i1 : iv c ≠ 35 := fun g => h1 (iv_inj g)
      have i2 : iv c ≠ 34 := fun g => h2 (iv_inj g)
      rw [ws_word i0 i1 i2, ws_word i0 i1 i2]
      have hd : (c :: r).dropWhile (· != 32) = r.dropWhile (· != 32) := by rw [List.dropWhile_cons, if_pos (by simpa using h0)]
      have hd2 : (c :: (r ++ [32])).dropWhile (· != 32) = (r ++ [32]).dropWhile (· != 32) := by rw [List.dropWhile_cons, if_pos (by simpa using h0)]
      have hle := List.Sublist.length_le (List.dropWhile_sublist (l := r) (· != 32))
      have hw : cutW 32 (c :: (r ++ [32])) = cutW 32 (c :: r) := by
        unfold cutW
        rw [List.takeWhile_cons, List.takeWhile_cons, if_pos (by simpa using h0), if_pos (by simpa using h0), List.takeWhile_append]
        split
        · rename_i g
          have e : r.takeWhile (· != 32) = r := (List.takeWhile_sublist _).eq_of_length g
          rw [e]; simp
        · rfl
      rw [hd, hd2, hw, List.dropWhile_append]
      split
      · rename_i g
        have e : r.dropWhile (· != 32) = [] := List.isEmpty_iff.1 g
        rw [e]
        show Option.map _ (wordsL [32]) = _
        rw [ws_sp]
      · rw [words_sp n _ (by omega)]
theorem take_blank (r : Scr) (l : Bs) : takeS r ([32, 32] ++ l ++ [32]) = takeS r l := by
  have : wordsL ([32, 32] ++ l ++ [32]) = wordsL l := by
    rw [words_sp _ _ (Nat.le_refl _)]
    show wordsL (32 :: 32 :: l) = _
    rw [ws_sp, ws_sp]
  unfold takeS; rw [this]
theorem take_skip (r : Scr) : takeS r [35, 32, 34] = .ok r ∧ takeS r [32, 32] = .ok r ∧ takeS r [] = .ok r := by
  refine ⟨?_, ?_, ?_⟩
  · unfold takeS; rw [ws_hash2]
  · unfold takeS; rw [ws_sp, ws_sp, ws_end]
  · unfold takeS; rw [ws_end]

/-! ### lines -/
def splitL : Bs → List Bs
  | [] => [[]]
  | c :: s => if c = 10 then [] :: splitL s else match splitL s with
    | [] => [[c]]
    | l :: r => (c :: l) :: r
theorem splitL_cons (c : UInt8) (s : Bs) : splitL (c :: s) = if c = 10 then [] :: splitL s else match splitL s with
    | [] => [[c]]
    | l :: r => (c :: l) :: r := rfl
theorem splitL_ne : ∀ s, splitL s ≠ []
  | [] => by simp [splitL]
  | c :: s => by
    unfold splitL
    split
    · simp
    · split <;> simp
theorem splitL_app : ∀ (l x : Bs), 10 ∉ l → splitL (l ++ 10 :: x) = l :: splitL x
  | [], x, _ => by show splitL (10 :: x) = _; rw [splitL_cons, if_pos rfl]
  | c :: l, x, h => by
    have h1 : c ≠ 10 := fun g => h (by simp [g])
    have ih := splitL_app l x (fun g => h (by simp [g]))
    show splitL (c :: (l ++ 10 :: x)) = _
    rw [splitL_cons, if_neg h1, ih]
theorem splitL_one : ∀ l : Bs, 10 ∉ l → splitL l = [l]
  | [], _ => rfl
  | c :: l, h => by
    have h1 : c ≠ 10 := fun g => h (by simp [g])
    have ih := splitL_one l (fun g => h (by simp [g]))
    rw [splitL_cons, if_neg h1, ih]
theorem cut_parts {s : Bs} (h : (10 : UInt8) ∈ s) : s = cutW 10 s ++ 10 :: cutR 10 s ∧ 10 ∉ cutW 10 s := by
  induction s with
  | nil => cases h
  | cons c s ih =>
    unfold cutW cutR at ih ⊢
    by_cases h1 : c = 10
    · subst h1; simp
    · have h2 : (10 : UInt8) ∈ s := by
        rcases List.mem_cons.1 h with g | g
        · exact absurd g.symm h1
        · exact g
      obtain ⟨i1, i2⟩ := ih h2
      rw [List.takeWhile_cons, List.dropWhile_cons, if_pos (by simpa using h1), if_pos (by simpa using h1)]
      exact ⟨by rw [List.cons_append, ← i1], by simp [i2, Ne.symm h1]⟩
theorem splitL_cut {s : Bs} (h : (10 : UInt8) ∈ s) : splitL s = cutW 10 s :: splitL (cutR 10 s) := by
  obtain ⟨h1, h2⟩ := cut_parts h
  conv => lhs; rw [h1]
  exact splitL_app _ _ h2
theorem cut_all {s : Bs} (h : (10 : UInt8) ∉ s) : cutW 10 s = s ∧ cutR 10 s = [] := by
  unfold cutW cutR
  induction s with
  | nil => exact ⟨rfl, rfl⟩
  | cons c s ih =>
    have h1 : c ≠ 10 := fun g => h (by simp [g])
    obtain ⟨i1, i2⟩ := ih (fun g => h (by simp [g]))
    rw [List.takeWhile_cons, List.dropWhile_cons, if_pos (by simpa using h1), if_pos (by simpa using h1), i1]
    exact ⟨rfl, i2⟩
theorem splitL_mem : ∀ (s l : Bs), l ∈ splitL s → 10 ∉ l
  | [], l, h => by simp [splitL] at h; subst h; simp
  | c :: s, l, h => by
    have ih := splitL_mem s
    unfold splitL at h
    split at h
    · rcases List.mem_cons.1 h with rfl | h
      · simp
      · exact ih l h
    · rename_i hc
      split at h
      · rename_i g; exact absurd g (splitL_ne s)
      · rename_i a r g
        rw [g] at ih
        rcases List.mem_cons.1 h with rfl | h
        · have := ih a (by simp)
          simp [this, Ne.symm hc]
        · exact ih l (by simp [h])
theorem split_join : ∀ out : List Bs, out ≠ [] → (∀ l ∈ out, (10 : UInt8) ∉ l) → splitL (Lib.join out [10]) = out
  | [], h, _ => absurd rfl h
  | [l], _, h => by rw [Lib.join_one]; exact splitL_one l (h l (by simp))
  | l :: l2 :: r, _, h => by
    have ih := split_join (l2 :: r) (by simp) (fun x hx => h x (by simp [hx]))
    have e : Lib.join (l :: l2 :: r) [10] = l ++ 10 :: Lib.join (l2 :: r) [10] := by simp [Lib.join, List.intercalate]
    rw [e, splitL_app _ _ (h l (by simp)), ih]
theorem splitL_sum : ∀ s : Bs, ((splitL s).map fun l => l.length + 1).sum = s.length + 1
  | [] => rfl
  | c :: s => by
    have ih := splitL_sum s
    unfold splitL
    split
    · simp only [List.map_cons, List.sum_cons, ih, List.length_cons, List.length_nil]; omega
    · split
      · rename_i g; exact absurd g (splitL_ne s)
      · rename_i a r g
        rw [g] at ih
        simp only [List.map_cons, List.sum_cons, List.length_cons] at ih ⊢
        omega
theorem len_sum : ∀ l : List Bs, l.length ≤ (l.map fun x => x.length + 1).sum
  | [] => by simp
  | a :: l => by have := len_sum l; simp only [List.length_cons, List.map_cons, List.sum_cons]; omega

/-! ### what the document's function makes of lines -/
def outL : List Bs → List Bool → List Bs
  | [], _ => []
  | l :: ls, [] => l :: outL ls []
  | l :: ls, b :: more => (if b then [[35, 32, 34], [32, 32], [32, 32] ++ l ++ [32]] else [l]) ++ outL ls more
theorem outL_ne {ls : List Bs} {more : List Bool} (h : ls ≠ []) : outL ls more ≠ [] := by
  cases ls with
  | nil => exact absurd rfl h
  | cons l ls =>
    cases more with
    | nil => simp [outL]
    | cons b more => cases b <;> simp [outL]
theorem outL_mem : ∀ (ls : List Bs) (more : List Bool), (∀ l ∈ ls, (10 : UInt8) ∉ l) → ∀ l ∈ outL ls more, (10 : UInt8) ∉ l
  | [], _, _, l, h => by cases h
  | a :: ls, [], hn, l, h => by
    rcases List.mem_cons.1 h with rfl | h
    · exact hn _ (by simp)
    · exact outL_mem ls [] (fun x hx => hn x (by simp [hx])) l h
  | a :: ls, b :: more, hn, l, h => by
    unfold outL at h
    rcases List.mem_append.1 h with h | h
    · have ha := hn a (by simp)
      cases b with
      | false => simp at h; subst h; exact ha
      | true =>
        simp at h
        rcases h with rfl | rfl | rfl
        · decide
        · decide
        · simp [ha]
    · exact outL_mem ls more (fun x hx => hn x (by simp [hx])) l h
theorem outL_sum : ∀ (ls : List Bs) (more : List Bool), ((outL ls more).map fun l => l.length + 1).sum ≤ (ls.map fun l => l.length + 1).sum + 10 * ls.length
  | [], _ => by simp [outL]
  | a :: ls, [] => by
    have := outL_sum ls []
    simp only [outL, List.map_cons, List.sum_cons, List.length_cons]; omega
  | a :: ls, b :: more => by
    have := outL_sum ls more
    cases b <;> simp [outL] <;> omega
theorem outL_app : ∀ (ls ms : List Bs) (more : List Bool), outL (ls ++ ms) more = outL ls more ++ outL ms (more.drop ls.length)
  | [], ms, more => by simp [outL]
  | a :: ls, ms, [] => by
    have := outL_app ls ms []
    simp only [List.cons_append, outL, this, List.drop_nil]
  | a :: ls, ms, b :: more => by
    have := outL_app ls ms more
    simp only [List.cons_append, outL, this, List.length_cons, List.drop_succ_cons, List.append_assoc]

/-! ### parsing lines -/
def pL : Scr → Int → List Bs → Except (Int × Int) (Scr × Int)
  | r, n, [] => .ok (r, n)
  | r, n, l :: ls => match takeS r l with
    | .error e => .error (e, n + 1)
    | .ok r => pL r (n + 1) ls
theorem pL_cons (r : Scr) (n : Int) (l : Bs) (ls : List Bs) : pL r n (l :: ls) = match takeS r l with
    | .error e => .error (e, n + 1)
    | .ok r => pL r (n + 1) ls := rfl
theorem pL_app_ok : ∀ (xs ys : List Bs) (r : Scr) (n : Int), (∀ x ∈ xs, takeS r x = .ok r) → pL r n (xs ++ ys) = pL r (n + xs.length) ys
  | [], ys, r, n, _ => by simp
  | x :: xs, ys, r, n, h => by
    have ih := pL_app_ok xs ys r (n + 1) (fun y hy => h y (by simp [hy]))
    rw [List.cons_append]
    rw [pL_cons, h x (by simp)]
    simp only [ih, List.length_cons]
    congr 1
    omega
/-- a line with what stands ahead of it -/
theorem pL_one (r : Scr) (n : Int) (l : Bs) (b : Bool) (ys : List Bs) : pL r n ((if b then [[35, 32, 34], [32, 32], [32, 32] ++ l ++ [32]] else [l]) ++ ys) =
    match takeS r l with
    | .error e => .error (e, n + ((if b then [[35, 32, 34], [32, 32], [32, 32] ++ l ++ [32]] else [l]) : List Bs).length)
    | .ok r => pL r (n + ((if b then [[35, 32, 34], [32, 32], [32, 32] ++ l ++ [32]] else [l]) : List Bs).length) ys := by
  cases b with
  | false =>
    rfl
  | true =>
    have h1 := pL_app_ok [[35, 32, 34], [32, 32]] (([32, 32] ++ l ++ [32]) :: ys) r n (by
      intro x hx
      simp only [List.mem_cons, List.not_mem_nil, or_false] at hx
      rcases hx with rfl | rfl
      · exact (take_skip r).1
      · exact (take_skip r).2.1)
    have h2 : ((if true = true then [[35, 32, 34], [32, 32], [32, 32] ++ l ++ [32]] else [l]) ++ ys : List Bs) = [[35, 32, 34], [32, 32]] ++ (([32, 32] ++ l ++ [32]) :: ys) := rfl
    rw [h2, h1, pL_cons, take_blank]
    cases takeS r l with
    | error e => simp only; congr 2; simp; omega
    | ok r => simp only; congr 1; simp; omega
theorem pL_sim : ∀ (ls : List Bs) (more : List Bool) (r : Scr) (n n' : Int), match pL r n ls with
    | .error (e, k) => ∃ j : Nat, j < ls.length ∧ k = n + j + 1 ∧ pL r n' (outL ls more) = .error (e, n' + (outL (ls.take (j + 1)) more).length)
    | .ok (r', k) => k = n + ls.length ∧ pL r n' (outL ls more) = .ok (r', n' + (outL ls more).length)
  | [], more, r, n, n' => by simp [pL, outL]
  | l :: ls, more, r, n, n' => by
    obtain ⟨b, more', hb, ht⟩ : ∃ (b : Bool) (more' : List Bool), outL (l :: ls) more = (if b then [[35, 32, 34], [32, 32], [32, 32] ++ l ++ [32]] else [l]) ++ outL ls more' ∧
        ∀ j, outL ((l :: ls).take (j + 1)) more = (if b then [[35, 32, 34], [32, 32], [32, 32] ++ l ++ [32]] else [l]) ++ outL (ls.take j) more' := by
      cases more with
      | nil => exact ⟨false, [], rfl, fun j => rfl⟩
      | cons b more => exact ⟨b, more, rfl, fun j => rfl⟩
    rw [hb, pL_one, pL_cons]
    cases htk : takeS r l with
    | error e =>
      simp only
      refine ⟨0, by simp, by omega, ?_⟩
      rw [ht]
      simp [outL]
    | ok r1 =>
      simp only
      have ih := pL_sim ls more' r1 (n + 1) (n' + ((if b then [[35, 32, 34], [32, 32], [32, 32] ++ l ++ [32]] else [l]) : List Bs).length)
      cases hp : pL r1 (n + 1) ls with
      | error q =>
        obtain ⟨e, k⟩ := q
        rw [hp] at ih
        simp only at ih ⊢
        obtain ⟨j, h1, h2, h3⟩ := ih
        refine ⟨j + 1, by simp; omega, by omega, ?_⟩
        rw [h3, ht (j + 1), List.length_append]
        congr 2
        omega
      | ok q =>
        obtain ⟨r2, k⟩ := q
        rw [hp] at ih
        simp only at ih ⊢
        obtain ⟨h1, h2⟩ := ih
        refine ⟨by simp; omega, ?_⟩
        rw [h2, List.length_append]
        congr 2
        omega
def lastE (ls : List Bs) : Int := if ls.getLast? = some [] then 1 else 0
theorem lastE_cons (l : Bs) {ls : List Bs} (h : ls ≠ []) : lastE (l :: ls) = lastE ls := by
  cases ls with
  | nil => exact absurd rfl h
  | cons a ls => unfold lastE; rw [List.getLast?_cons_cons]
theorem pF_pL : ∀ (f : Nat) (r : Scr) (n : Int) (s : Bs), s.length < f → match pL r n (splitL s) with
    | .error q => parseF f r n s = .error q
    | .ok (r', k) => parseF f r n s = .ok (r', k - lastE (splitL s))
  | 0, r, n, s, h => by omega
  | f + 1, r, n, [], _ => by
    have h0 := (take_skip r).2.2
    rw [show splitL [] = [[]] from rfl, pL_cons, h0]
    show parseF (f + 1) r n [] = .ok (r, n + 1 - lastE [[]])
    rw [show lastE [[]] = 1 from rfl, show n + 1 - 1 = n by omega]
    rfl
  | f + 1, r, n, c :: s, h => by
    have hne : ¬ c :: s = [] := by simp
    have hpf : parseF (f + 1) r n (c :: s) = (match takeS r (cutW 10 (c :: s)) with
        | .error e => .error (e, n + 1)
        | .ok r => parseF f r (n + 1) (cutR 10 (c :: s))) := by
      rw [parseF, if_neg hne]; rfl
    rw [hpf]
    have hlt := cutR_len 10 c s
    by_cases hm : (10 : UInt8) ∈ c :: s
    · rw [splitL_cut hm, pL_cons, lastE_cons _ (splitL_ne _)]
      cases takeS r (cutW 10 (c :: s)) with
      | error e => rfl
      | ok r1 => exact pF_pL f r1 (n + 1) _ (by simp only [List.length_cons] at h hlt ⊢; omega)
    · obtain ⟨e1, e2⟩ := cut_all hm
      rw [splitL_one _ hm, e1, e2, pL_cons]
      cases takeS r (c :: s) with
      | error e => rfl
      | ok r1 =>
        show parseF f r1 (n + 1) [] = .ok (r1, n + 1 - lastE [c :: s])
        rw [show lastE [c :: s] = 0 from rfl, show n + 1 - 0 = n + 1 by omega]
        cases f with
        | zero => rfl
        | succ f => rw [parseF, if_pos rfl]
theorem lastE_out : ∀ (ls : List Bs) (more : List Bool), ls ≠ [] → lastE (outL ls more) ≤ lastE ls
  | [], _, h => absurd rfl h
  | [l], [], _ => by show lastE [l] ≤ lastE [l]; omega
  | [l], true :: more, _ => by
    have e : lastE (outL [l] (true :: more)) = 0 := by unfold lastE outL; simp [outL]
    rw [e]; unfold lastE; split <;> omega
  | [l], false :: more, _ => by show lastE [l] ≤ lastE [l]; omega
  | l :: l2 :: ls, [], _ => by
    have ih := lastE_out (l2 :: ls) [] (by simp)
    show lastE (l :: outL (l2 :: ls) []) ≤ _
    rw [lastE_cons _ (outL_ne (by simp)), lastE_cons _ (by simp)]; exact ih
  | l :: l2 :: ls, b :: more, _ => by
    have ih := lastE_out (l2 :: ls) more (by simp)
    have hne : outL (l2 :: ls) more ≠ [] := outL_ne (by simp)
    rw [lastE_cons l (by simp : l2 :: ls ≠ [])]
    cases b with
    | false =>
      show lastE (l :: outL (l2 :: ls) more) ≤ _
      rw [lastE_cons _ hne]; exact ih
    | true =>
      show lastE ([35, 32, 34] :: [32, 32] :: ([32, 32] ++ l ++ [32]) :: outL (l2 :: ls) more) ≤ _
      rw [lastE_cons _ (by simp), lastE_cons _ (by simp), lastE_cons _ hne]; exact ih
/-- the place of a line behind what stands ahead -/
def atT (ls : List Bs) (more : List Bool) (n : Int) : Int := if 1 ≤ n ∧ n ≤ ls.length then ((outL (ls.take n.toNat) more).length : Int) else 0
theorem loose (text : Bs) (more : List Bool) :
    (∀ sc, parseS text = .ok sc → parseS (Lib.join (outL (splitL text) more) [10]) = .ok sc) ∧
    ∀ e k, parseS text = .error (e, k) → ∃ m, parseS (Lib.join (outL (splitL text) more) [10]) = .error (e, m) ∧ (m = atT (splitL text) more k ∨ e = 263 ∧ k ≤ m) := by
  obtain ⟨new, hnew⟩ : ∃ new, Lib.join (outL (splitL text) more) [10] = new := ⟨_, rfl⟩
  have hs : splitL new = outL (splitL text) more := by
    rw [← hnew]; exact split_join _ (outL_ne (splitL_ne _)) (outL_mem _ _ (splitL_mem text))
  rw [hnew]
  have h1 := pF_pL (text.length + 1) ⟨none, []⟩ 0 text (by omega)
  have h2 := pF_pL (new.length + 1) ⟨none, []⟩ 0 new (by omega)
  have h3 := pL_sim (splitL text) more ⟨none, []⟩ 0 0
  rw [hs] at h2
  unfold parseS
  cases hp : pL ⟨none, []⟩ 0 (splitL text) with
  | error q =>
    obtain ⟨e, k⟩ := q
    rw [hp] at h1 h3
    simp only at h1 h3
    obtain ⟨j, hj, hk, hq⟩ := h3
    rw [hq] at h2
    simp only at h2
    rw [h1, h2]
    refine ⟨fun sc h => (by cases h), fun e' k' h => ?_⟩
    simp only [Except.error.injEq, Prod.mk.injEq] at h
    obtain ⟨rfl, rfl⟩ := h
    refine ⟨_, rfl, .inl ?_⟩
    unfold atT
    rw [if_pos (by omega), show k.toNat = j + 1 by omega]
    omega
  | ok q =>
    obtain ⟨r', k⟩ := q
    rw [hp] at h1 h3
    simp only at h1 h3
    obtain ⟨hk, hq⟩ := h3
    rw [hq] at h2
    simp only at h2
    have hle := lastE_out (splitL text) more (splitL_ne _)
    rw [h1, h2]
    simp only
    have hlen : (splitL text).length ≤ (outL (splitL text) more).length := by
      have : ∀ (ls : List Bs) (more : List Bool), ls.length ≤ (outL ls more).length := by
        intro ls
        induction ls with
        | nil => intro more; simp
        | cons l ls ih =>
          intro more
          cases more with
          | nil => have := ih []; simp only [outL, List.length_cons]; omega
          | cons b more => have := ih more; cases b <;> simp [outL] <;> omega
      exact this _ _
    cases hc : r'.c with
    | none =>
      rw [if_pos (show (none : Option (List Int)).isNone = true from rfl), if_pos (show (none : Option (List Int)).isNone = true from rfl)]
      refine ⟨fun sc h => (by cases h), fun e' k' h => ?_⟩
      simp only [Except.error.injEq, Prod.mk.injEq] at h
      obtain ⟨rfl, rfl⟩ := h
      exact ⟨_, rfl, .inr ⟨rfl, by omega⟩⟩
    | some c =>
      rw [if_neg (by simp), if_neg (by simp)]
      refine ⟨fun sc h => h, fun e' k' h => (by cases h)⟩
end Go.Gsl
