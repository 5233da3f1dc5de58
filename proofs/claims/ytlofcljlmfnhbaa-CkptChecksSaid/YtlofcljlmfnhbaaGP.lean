/- Pairs and chunks: their bytes, forth and back (plain Lean). -/
import Derived.Test.YtlofcljlmfnhbaaGC
import Derived.Test.YtlofcljlmfnhbaaGK
import Derived.Test.YtlofcljlmfnhbaaGE
import Derived.Test.YtlofcljlmfnhbaaGB
import Derived.Test.YtlofcljlmfnhbaaGD
namespace Go.Gsl
set_option linter.unusedVariables false
open Go.Proofs

/-- a text's bytes -/
def txtB (s : List Int) : List Int := intB s.length ++ s
def flagB (y : Bool) : List Int := intB (if y then 1 else 0)
/-- the text with which bytes begin, how many bytes it takes, what is wrong -/
def takeTxt (bs : List Int) : List Int × Int × Int :=
  if (takeInt bs).2.2 ≠ 0 then ([], 0, (takeInt bs).2.2) else if (takeInt bs).1 < 0 then ([], 0, 11) else if (bs.length : Int) - (takeInt bs).2.1 < (takeInt bs).1 then ([], 0, 10)
  else ((bs.drop (takeInt bs).2.1.toNat).take (takeInt bs).1.toNat, (takeInt bs).2.1 + (takeInt bs).1, 0)
def takeFlag (bs : List Int) : Bool × Int × Int :=
  if (takeInt bs).2.2 ≠ 0 then (false, 0, (takeInt bs).2.2) else if (takeInt bs).1 ≠ 0 ∧ (takeInt bs).1 ≠ 1 then (false, 0, 11) else (decide ((takeInt bs).1 = 1), (takeInt bs).2.1, 0)

theorem txtB_len (s : List Int) : (txtB s).length = width s.length + s.length := by unfold txtB; rw [List.length_append, intB_len]
theorem txtB_byt {s : List Int} (h : Byt s) : Byt (txtB s) := (intB_byt _).app h
theorem flagB_len (y : Bool) : (flagB y).length = 1 := by
  unfold flagB
  rw [intB_len]
  cases y <;> decide
theorem flagB_byt (y : Bool) : Byt (flagB y) := intB_byt _

theorem take_txt {s : List Int} (hs : s.length ≤ 70368744177664) (rest : List Int) : takeTxt (txtB s ++ rest) = (s, ((txtB s).length : Int), 0) := by
  have h := take_int (n := s.length) (by unfold I64; omega) (s ++ rest)
  have hb : txtB s ++ rest = intB s.length ++ (s ++ rest) := by unfold txtB; rw [List.append_assoc]
  have hl := txtB_len s
  unfold takeTxt
  rw [hb, h]
  simp only
  rw [if_neg (by simp), if_neg (by omega), if_neg (by rw [List.length_append, List.length_append, intB_len]; omega)]
  rw [List.drop_left' (by rw [intB_len]; omega), List.take_left' (by omega), hl]
  simp
theorem take_flag (y : Bool) (rest : List Int) : takeFlag (flagB y ++ rest) = (y, ((flagB y).length : Int), 0) := by
  have h := take_int (n := if y then 1 else 0) (by unfold I64; split <;> omega) rest
  unfold takeFlag
  rw [flagB_len]
  unfold flagB
  rw [h]
  cases y <;> simp <;> decide

/-- a reader's next field -/
def nxt {α : Type} (z : α) (take : List Int → α × Int × Int) (bs : List Int) (st : Nat × Int) : α × Nat × Int :=
  if st.2 ≠ 0 then (z, st) else if (take (bs.drop st.1)).2.2 ≠ 0 then (z, st.1, (take (bs.drop st.1)).2.2)
  else ((take (bs.drop st.1)).1, st.1 + (take (bs.drop st.1)).2.1.toNat, 0)
theorem num_nxt : num = nxt 0 takeInt := rfl
theorem nxt_of {α : Type} {z : α} {take : List Int → α × Int × Int} {bs : List Int} {a : Nat} {x : α} {k : Nat} (h : take (bs.drop a) = (x, (k : Int), 0)) : nxt z take bs (a, 0) = (x, a + k, 0) := by
  unfold nxt
  simp only
  rw [h]
  simp

/-- a pair -/
structure Sp where
  key : List Int
  val : List Int
  ts : Int
/-- a chunk -/
structure Ck where
  num : Int
  last : Bool
  l : List Sp
def Sp.b (x : Sp) : List Int := txtB x.key ++ (txtB x.val ++ intB x.ts)
def spsB (l : List Sp) : List Int := l.flatMap Sp.b
def Ck.b (c : Ck) : List Int := intB c.num ++ (flagB c.last ++ (intB c.l.length ++ spsB c.l))
def Sp.In (x : Sp) : Prop := Byt x.key ∧ Byt x.val ∧ I64 x.ts ∧ x.key.length ≤ 70368744177664 ∧ x.val.length ≤ 70368744177664
theorem spsB_snoc (l : List Sp) (x : Sp) : spsB (l ++ [x]) = spsB l ++ x.b := by unfold spsB; simp
theorem Sp.b_byt {x : Sp} (h : x.In) : Byt x.b := (txtB_byt h.1).app ((txtB_byt h.2.1).app (intB_byt _))
theorem spsB_byt {l : List Sp} (h : ∀ x ∈ l, x.In) : Byt (spsB l) := fun y hy => by
  obtain ⟨x, hx, hy⟩ := List.mem_flatMap.1 hy
  exact Sp.b_byt (h x hx) y hy
theorem Ck.b_byt {c : Ck} (h : ∀ x ∈ c.l, x.In) : Byt c.b := (intB_byt _).app ((flagB_byt _).app ((intB_byt _).app (spsB_byt h)))

/-- a reader's next pair -/
def spN (bs : List Int) (st : Nat × Int) : Sp × Nat × Int :=
  let k := nxt [] takeTxt bs st
  let v := nxt [] takeTxt bs k.2
  let t := nxt 0 takeInt bs v.2
  (⟨k.1, v.1, t.1⟩, t.2)
/-- its next pairs, so many -/
def spsN (bs : List Int) (st : Nat × Int) : Nat → List Sp × Nat × Int
  | 0 => ([], st)
  | n + 1 => ((spsN bs st n).1 ++ [(spN bs (spsN bs st n).2).1], (spN bs (spsN bs st n).2).2)
/-- how many there are -/
def manyN (most : Int) (bs : List Int) (st : Nat × Int) : Int × Nat × Int :=
  let n := nxt 0 takeInt bs st
  if n.2.2 ≠ 0 then (0, n.2) else if n.1 < 0 ∨ most < n.1 then (0, n.2.1, 32) else n

theorem spN_of {bs : List Int} {a : Nat} {x : Sp} (hx : x.In) {rest : List Int} (h : bs.drop a = x.b ++ rest) : spN bs (a, 0) = (x, a + x.b.length, 0) := by
  unfold Sp.b at h
  have h1 : nxt [] takeTxt bs (a, 0) = (x.key, a + (txtB x.key).length, 0) := nxt_of (by
    rw [h, List.append_assoc, take_txt hx.2.2.2.1])
  have d1 : bs.drop (a + (txtB x.key).length) = txtB x.val ++ (intB x.ts ++ rest) := by
    rw [← List.drop_drop, h, List.append_assoc, List.drop_left, List.append_assoc]
  have h2 : nxt [] takeTxt bs (a + (txtB x.key).length, 0) = (x.val, a + (txtB x.key).length + (txtB x.val).length, 0) := nxt_of (by
    rw [d1, take_txt hx.2.2.2.2])
  have d2 : bs.drop (a + (txtB x.key).length + (txtB x.val).length) = intB x.ts ++ rest := by
    rw [← List.drop_drop, d1, List.drop_left]
  have h3 : nxt 0 takeInt bs (a + (txtB x.key).length + (txtB x.val).length, 0) = (x.ts, a + (txtB x.key).length + (txtB x.val).length + width x.ts, 0) := nxt_of (by
    rw [d2, take_int hx.2.2.1])
  unfold spN
  simp only [h1, h2, h3]
  unfold Sp.b
  rw [List.length_append, List.length_append, intB_len, Nat.add_assoc, Nat.add_assoc]
theorem spsN_of {bs : List Int} {a : Nat} {l : List Sp} (hx : ∀ x ∈ l, x.In) {rest : List Int} (h : bs.drop a = spsB l ++ rest) : ∀ n, n ≤ l.length → spsN bs (a, 0) n = (l.take n, a + (spsB (l.take n)).length, 0)
  | 0, _ => by simp [spsN, spsB]
  | n + 1, hn => by
    have h1 : l = l.take n ++ l[n] :: l.drop (n + 1) := by rw [← List.drop_eq_getElem_cons hn, List.take_append_drop]
    have h2 : spsB l = spsB (l.take n) ++ (l[n].b ++ spsB (l.drop (n + 1))) := by
      conv => lhs; rw [h1]
      unfold spsB
      rw [List.flatMap_append, List.flatMap_cons]
    have h3 : spN bs (a + (spsB (l.take n)).length, 0) = (l[n], a + (spsB (l.take n)).length + l[n].b.length, 0) :=
      spN_of (hx _ (List.getElem_mem hn)) (rest := spsB (l.drop (n + 1)) ++ rest) (by
        rw [← List.drop_drop, h, h2, List.append_assoc, List.drop_left, List.append_assoc])
    have h4 : l.take (n + 1) = l.take n ++ [l[n]] := by rw [List.take_add_one, List.getElem?_eq_getElem hn, Option.toList_some]
    unfold spsN
    rw [spsN_of hx h n (by omega), h4, spsB_snoc, List.length_append]
    simp only [h3, Nat.add_assoc]
theorem manyN_of {bs : List Int} {a : Nat} {n : Nat} {most : Int} (hn : (n : Int) ≤ most) (hm : most ≤ 1000000) {rest : List Int} (h : bs.drop a = intB n ++ rest) : manyN most bs (a, 0) = ((n : Int), a + width n, 0) := by
  have h1 : nxt 0 takeInt bs (a, 0) = ((n : Int), a + width n, 0) := nxt_of (by rw [h, take_int (by unfold I64; omega)])
  unfold manyN
  simp only [h1]
  rw [if_neg (by simp), if_neg (by omega)]

/-- what a chunk's bytes say, ahead of the checks -/
def rawCk (bs : List Int) : Ck × Nat × Int :=
  let n := nxt 0 takeInt bs (0, 0)
  let f := nxt false takeFlag bs n.2
  let m := manyN 16 bs f.2
  let l := spsN bs m.2 m.1.toNat
  (⟨n.1, f.1, l.1⟩, l.2)
theorem raw_ck {c : Ck} (hn : I64 c.num) (hl : c.l.length ≤ 16) (hx : ∀ x ∈ c.l, x.In) : rawCk c.b = (c, c.b.length, 0) := by
  have h1 : nxt 0 takeInt c.b (0, 0) = (c.num, width c.num, 0) := by
    rw [nxt_of (x := c.num) (k := width c.num) (by rw [List.drop_zero]; exact take_int hn _), Nat.zero_add]
  have d1 : c.b.drop (width c.num) = flagB c.last ++ (intB c.l.length ++ spsB c.l) := by
    unfold Ck.b
    exact List.drop_left' (intB_len _)
  have h2 : nxt false takeFlag c.b (width c.num, 0) = (c.last, width c.num + 1, 0) := nxt_of (by rw [d1, take_flag, flagB_len])
  have d2 : c.b.drop (width c.num + 1) = intB c.l.length ++ spsB c.l := by
    rw [← List.drop_drop, d1]
    exact List.drop_left' (flagB_len _)
  have h3 := manyN_of (most := 16) (by omega) (by omega) d2
  have d3 : c.b.drop (width c.num + 1 + width c.l.length) = spsB c.l ++ [] := by
    rw [← List.drop_drop, d2, List.append_nil]
    exact List.drop_left' (intB_len _)
  have h4 := spsN_of hx d3 c.l.length (by omega)
  rw [List.take_length] at h4
  unfold rawCk
  simp only [h1, h2, h3, Int.toNat_natCast, h4]
  refine Prod.ext rfl (Prod.ext ?_ rfl)
  show _ = c.b.length
  unfold Ck.b
  simp only [List.length_append, intB_len, flagB_len]
  omega
end Go.Gsl

namespace Go.Gsl
set_option linter.unusedVariables false
open Go.Proofs

/-- what is wrong with a pair, its place being right or not -/
def Sp.chk (x : Sp) (ok : Bool) : Int := if x.key.length = 0 ∨ 64 < x.key.length then 30 else if 256 < x.val.length then 31 else if Stamp x.ts 1 ∧ ok = true then 0 else 32
/-- a key's place behind another one -/
def okK : Option (List Int) → List Int → Bool
  | none, _ => true
  | some k, x => lessB k x
/-- what is wrong with pairs, behind a key -/
def chksL : Option (List Int) → List Sp → Int
  | _, [] => 0
  | p, x :: l => if x.chk (okK p x.key) ≠ 0 then x.chk (okK p x.key) else chksL (some x.key) l
def Ck.chk (c : Ck) : Int := if c.num < 0 ∨ 4096 ≤ c.num ∨ 16 < c.l.length then 32 else chksL none c.l
def Ck.zero : Ck := ⟨0, false, []⟩
def takeCk (bs : List Int) : Ck × Int :=
  if endE bs.length (rawCk bs).1.chk (rawCk bs).2 ≠ 0 then (Ck.zero, endE bs.length (rawCk bs).1.chk (rawCk bs).2) else ((rawCk bs).1, 0)

theorem Sp.chk_ok {x : Sp} {ok : Bool} (h : x.chk ok = 0) : (1 ≤ x.key.length ∧ x.key.length ≤ 64) ∧ x.val.length ≤ 256 ∧ Stamp x.ts 1 ∧ ok = true := by
  unfold Sp.chk at h
  repeat' split at h
  all_goals first | omega | (rename_i h1 h2 h3; exact ⟨by omega, by omega, h3⟩)
theorem chksL_ok : ∀ {l : List Sp} {p : Option (List Int)}, chksL p l = 0 → ∀ x ∈ l, (1 ≤ x.key.length ∧ x.key.length ≤ 64) ∧ x.val.length ≤ 256 ∧ Stamp x.ts 1
  | [], _, _, _, hx => by cases hx
  | y :: l, p, h, x, hx => by
    unfold chksL at h
    split at h
    · omega
    · rename_i h1
      rcases List.mem_cons.1 hx with rfl | hx
      · have := Sp.chk_ok (show x.chk (okK p x.key) = 0 by omega)
        exact ⟨this.1, this.2.1, this.2.2.1⟩
      · exact chksL_ok h x hx
theorem Ck.chk_ok {c : Ck} (h : c.chk = 0) : (0 ≤ c.num ∧ c.num < 4096) ∧ c.l.length ≤ 16 ∧ ∀ x ∈ c.l, (1 ≤ x.key.length ∧ x.key.length ≤ 64) ∧ x.val.length ≤ 256 ∧ Stamp x.ts 1 := by
  unfold Ck.chk at h
  split at h
  · omega
  · exact ⟨by omega, by omega, chksL_ok h⟩
def Ck.In (c : Ck) : Prop := I64 c.num ∧ ∀ x ∈ c.l, x.In
/-- a chunk, put and taken -/
theorem take_ck {c : Ck} (hi : c.In) (h : c.chk = 0) : takeCk c.b = (c, 0) := by
  have h1 := raw_ck hi.1 (Ck.chk_ok h).2.1 hi.2
  unfold takeCk
  rw [h1, if_neg (by simp only [h]; unfold endE; simp)]

theorem width_le {n : Int} {k : Nat} (h0 : 0 ≤ n) (hk : 1 ≤ k) (h : n < 256 ^ k) (hk8 : k ≤ 7) : width n ≤ 1 + k := by
  have h2 : bo n ≤ k := by
    have : k = 1 ∨ k = 2 ∨ k = 3 ∨ k = 4 ∨ k = 5 ∨ k = 6 ∨ k = 7 := by omega
    unfold bo
    rcases this with rfl | rfl | rfl | rfl | rfl | rfl | rfl <;> simp at h <;> repeat' split
    all_goals omega
  unfold width
  split
  · omega
  · split <;> omega
theorem width_1 {n : Int} (h : 0 ≤ n ∧ n ≤ 100) : width n = 1 := by unfold width; rw [if_neg (by omega), if_neg (by omega)]
theorem Sp.b_len {x : Sp} (h : (1 ≤ x.key.length ∧ x.key.length ≤ 64) ∧ x.val.length ≤ 256 ∧ Stamp x.ts 1) : x.b.length ≤ 331 := by
  unfold Stamp at h
  unfold Sp.b
  rw [List.length_append, List.length_append, txtB_len, txtB_len, intB_len]
  have h1 : width (x.key.length : Int) = 1 := width_1 (by omega)
  have h2 : width (x.val.length : Int) ≤ 1 + 2 := width_le (by omega) (by omega) (by simp; omega) (by omega)
  have h3 : width x.ts ≤ 1 + 6 := width_le (by omega) (by omega) (by simp; omega) (by omega)
  omega
theorem spsB_len : ∀ {l : List Sp}, (∀ x ∈ l, (1 ≤ x.key.length ∧ x.key.length ≤ 64) ∧ x.val.length ≤ 256 ∧ Stamp x.ts 1) → (spsB l).length ≤ 331 * l.length
  | [], _ => by simp [spsB]
  | x :: l, h => by
    have h1 := Sp.b_len (h x (by simp))
    have h2 := spsB_len (l := l) fun y hy => h y (by simp [hy])
    unfold spsB at h2 ⊢
    rw [List.flatMap_cons, List.length_append, List.length_cons]
    omega
theorem Ck.b_len {c : Ck} (h : c.chk = 0) : c.b.length ≤ 5301 := by
  have hc := Ck.chk_ok h
  have h1 := spsB_len hc.2.2
  have h2 : width c.num ≤ 1 + 2 := width_le (by omega) (by omega) (by simp; omega) (by omega)
  have h3 : width (c.l.length : Int) = 1 := width_1 (by omega)
  unfold Ck.b
  simp only [List.length_append, intB_len, flagB_len]
  omega

/-- a frame, put and taken -/
theorem unfr_fr {bs : List Int} (hl : bs.length ≤ 1048576) (z : List Int) : unfr (frame bs ++ z) = (0, bs, ((frame bs).length : Int)) := by
  have h4 : (be4 (adler bs)).length = 4 := rfl
  have h1 : frame bs ++ z = intB bs.length ++ (bs ++ (be4 (adler bs) ++ z)) := by unfold frame; simp only [List.append_assoc]
  have hw := width_in (bs.length : Int)
  have hf := frame_len bs
  unfold unfr
  rw [h1, take_int (by unfold I64; omega), if_neg (by simp)]
  simp only [Int.toNat_natCast]
  unfold unfrK
  rw [if_neg (by omega), if_neg (by omega), if_neg (by simp only [List.length_append, intB_len, h4]; omega)]
  simp only [Int.toNat_natCast]
  have e1 : (intB (bs.length : Int) ++ (bs ++ (be4 (adler bs) ++ z))).drop (width (bs.length : Int)) = bs ++ (be4 (adler bs) ++ z) := List.drop_left' (intB_len _)
  rw [← List.drop_drop, e1, List.take_left, List.drop_left, List.take_left' h4, ofBE_be4 (adler_in _), if_neg (by simp), hf]
  refine Prod.ext rfl (Prod.ext rfl ?_)
  show ((width (bs.length : Int) : Nat) : Int) + (bs.length : Int) + 4 = ((width (bs.length : Int) + bs.length + 4 : Nat) : Int)
  omega

/-- a row's sectors, the last one filled with zeros -/
def secsOf (f : List Int) : List (List Int) := if f.length = 0 then [] else (f.take 512 ++ List.replicate (512 - (f.take 512).length) 0) :: secsOf (f.drop 512)
  termination_by f.length
  decreasing_by rw [List.length_drop]; omega
theorem secsOf_spec : ∀ (n : Nat) (f : List Int), f.length ≤ n → ∃ k, (secsOf f).flatten = f ++ List.replicate k 0 ∧ (secsOf f).length = (f.length + 511) / 512 ∧ ∀ s ∈ secsOf f, s.length = 512
  | 0, f, h => by
    have : f = [] := List.length_eq_zero_iff.1 (by omega)
    subst this
    exact ⟨0, by unfold secsOf; simp, by unfold secsOf; simp, by unfold secsOf; simp⟩
  | n + 1, f, h => by
    rw [secsOf]
    split
    · rename_i h0
      have : f = [] := List.length_eq_zero_iff.1 h0
      subst this
      exact ⟨0, by simp, by simp, by simp⟩
    · rename_i h0
      obtain ⟨k, h1, h2, h3⟩ := secsOf_spec n (f.drop 512) (by rw [List.length_drop]; omega)
      rw [List.length_drop] at h2
      have hs : (f.take 512 ++ List.replicate (512 - (f.take 512).length) 0).length = 512 := by
        rw [List.length_append, List.length_replicate, List.length_take]; omega
      by_cases h5 : f.length ≤ 512
      · have hd : f.drop 512 = [] := List.drop_eq_nil_of_le h5
        have ht : f.take 512 = f := List.take_of_length_le h5
        have he : secsOf ([] : List Int) = [] := by unfold secsOf; simp
        rw [ht] at hs
        rw [hd, ht, he]
        refine ⟨512 - f.length, by simp, by simp; omega, ?_⟩
        intro s hs'
        rw [List.mem_singleton.1 hs']
        exact hs
      · refine ⟨k, ?_, ?_, ?_⟩
        · rw [List.flatten_cons, h1, List.length_take, show 512 - min 512 f.length = 0 by omega, List.replicate_zero, List.append_nil, ← List.append_assoc, List.take_append_drop]
        · rw [List.length_cons, h2]; omega
        · intro s hs'
          rcases List.mem_cons.1 hs' with rfl | hs'
          · exact hs
          · exact h3 s hs'

/-- what is read of an area's chunk: its twelve sectors, one behind the other -/
def readCk (n : Int) (bs : List Int) : Ck × Int :=
  if (unfr bs).1 ≠ 0 then (Ck.zero, 191) else if (takeCk (unfr bs).2.1).2 ≠ 0 ∨ (takeCk (unfr bs).2.1).1.num ≠ n then (Ck.zero, 191) else ((takeCk (unfr bs).2.1).1, 0)
/-- a chunk's sectors -/
def Ck.secs (c : Ck) : List (List Int) := secsOf (frame c.b)
theorem Ck.secs_len {c : Ck} (h : c.chk = 0) : c.secs.length ≤ 12 ∧ 1 ≤ c.secs.length := by
  obtain ⟨k, _, h2, _⟩ := secsOf_spec _ (frame c.b) (Nat.le_refl _)
  have h1 := Ck.b_len h
  have h3 := frame_len c.b
  have h4 := width_in (c.b.length : Int)
  unfold Ck.secs
  rw [h2]
  omega
/-- a chunk that was written is read, whatever stands behind it -/
theorem read_ck {c : Ck} (hi : c.In) (h : c.chk = 0) (z : List Int) : readCk c.num (c.secs.flatten ++ z) = (c, 0) := by
  obtain ⟨k, h1, _, _⟩ := secsOf_spec _ (frame c.b) (Nat.le_refl _)
  have h2 := Ck.b_len h
  unfold readCk Ck.secs
  rw [h1, List.append_assoc, unfr_fr (by omega), if_neg (by simp)]
  simp only [take_ck hi h]
  rw [if_neg (by simp)]
end Go.Gsl

namespace Go.Gsl
set_option linter.unusedVariables false
open Go.Proofs

/-- a pair that may be -/
def Sp.Fine (x : Sp) : Prop := (1 ≤ x.key.length ∧ x.key.length ≤ 64) ∧ x.val.length ≤ 256 ∧ Stamp x.ts 1
theorem Sp.chk_true {x : Sp} : x.chk true = 0 ↔ x.Fine := by
  constructor
  · intro h
    have := Sp.chk_ok h
    exact ⟨this.1, this.2.1, this.2.2.1⟩
  · intro h
    unfold Sp.Fine at h
    unfold Sp.chk
    rw [if_neg (by omega), if_neg (by omega), if_pos ⟨h.2.2, rfl⟩]
theorem Sp.chk_zero {x : Sp} {ok : Bool} : x.chk ok = 0 ↔ x.Fine ∧ ok = true := by
  constructor
  · intro h
    have := Sp.chk_ok h
    exact ⟨⟨this.1, this.2.1, this.2.2.1⟩, this.2.2.2⟩
  · rintro ⟨h, rfl⟩
    exact Sp.chk_true.2 h
/-- pairs that rise, each one of which may be -/
def Rise (l : List Sp) : Prop := (∀ x ∈ l, x.Fine) ∧ l.Pairwise fun a b => lessB a.key b.key = true
theorem chksL_cons {p : Option (List Int)} {x : Sp} {l : List Sp} : chksL p (x :: l) = 0 ↔ (x.Fine ∧ okK p x.key = true) ∧ chksL (some x.key) l = 0 := by
  rw [← Sp.chk_zero]
  constructor
  · intro h
    unfold chksL at h
    split at h
    · omega
    · exact ⟨by omega, h⟩
  · intro ⟨h1, h2⟩
    unfold chksL
    rw [if_neg (by omega)]
    exact h2
theorem chksL_iff : ∀ {l : List Sp} {p : Option (List Int)}, chksL p l = 0 ↔ Rise l ∧ ∀ x ∈ l, okK p x.key = true
  | [], p => by simp [chksL, Rise]
  | y :: l, p => by
    rw [chksL_cons, chksL_iff (l := l)]
    unfold Rise
    constructor
    · rintro ⟨⟨h1, h2⟩, ⟨h3, h4⟩, h5⟩
      refine ⟨⟨?_, List.pairwise_cons.2 ⟨fun b hb => h5 b hb, h4⟩⟩, ?_⟩
      · intro x hx
        rcases List.mem_cons.1 hx with rfl | hx
        · exact h1
        · exact h3 x hx
      · intro x hx
        rcases List.mem_cons.1 hx with rfl | hx
        · exact h2
        · cases p with
          | none => rfl
          | some k => exact lessB_trans _ _ _ h2 (h5 x hx)
    · rintro ⟨⟨h1, h2⟩, h3⟩
      have h2 := List.pairwise_cons.1 h2
      exact ⟨⟨h1 y (by simp), h3 y (by simp)⟩, ⟨fun x hx => h1 x (by simp [hx]), h2.2⟩, fun x hx => h2.1 x hx⟩
theorem chksL_none {l : List Sp} : chksL none l = 0 ↔ Rise l := by
  rw [chksL_iff]
  exact ⟨fun h => h.1, fun h => ⟨h, fun _ _ => rfl⟩⟩
theorem Rise.sub {l m : List Sp} (h : Rise l) (hs : m.Sublist l) : Rise m := ⟨fun x hx => h.1 x (hs.subset hx), h.2.sublist hs⟩

/-- the chunk number `i` of pairs -/
def ckAt (l : List Sp) (i : Nat) : Ck := ⟨i, decide (l.length ≤ 16 * (i + 1)), (l.drop (16 * i)).take 16⟩
/-- how many chunks there are -/
def nCk (l : List Sp) : Nat := (l.length - 1) / 16 + 1
theorem ckAt_chk {l : List Sp} (h : Rise l) {i : Nat} (hi : i < 4096) : (ckAt l i).chk = 0 := by
  unfold Ck.chk ckAt
  rw [if_neg (by simp only [List.length_take]; omega)]
  exact chksL_none.2 (h.sub ((List.take_sublist ..).trans (List.drop_sublist ..)))
theorem ckAt_in {l : List Sp} (h : ∀ x ∈ l, x.In) {i : Nat} (hi : i < 4096) : (ckAt l i).In :=
  ⟨by unfold I64 ckAt; simp only; omega, fun x hx => h x (List.mem_of_mem_drop (List.mem_of_mem_take hx))⟩
/-- a chunk that is full stays, whatever comes behind -/
theorem ckAt_more {l m : List Sp} {i : Nat} (h : i < (l.length - 1) / 16) : ckAt (l ++ m) i = ckAt l i := by
  unfold ckAt
  have h1 : ¬ (l ++ m).length ≤ 16 * (i + 1) := by rw [List.length_append]; omega
  have h2 : ¬ l.length ≤ 16 * (i + 1) := by omega
  rw [decide_eq_false h1, decide_eq_false h2, List.drop_append_of_le_length (by omega), List.take_append_of_le_length (by rw [List.length_drop]; omega)]

/-- whether pairs don't rise from what was read on -/
def clash (out l : List Sp) : Bool := match out.getLast?, l.head? with
  | some a, some b => !lessB a.key b.key
  | _, _ => false
/-- chunks, put together -/
def loadL (k : Nat) : Nat → List Sp → List Ck → Option (List Sp)
  | _, out, [] => some out
  | n, out, c :: cs => if c.last ≠ decide (n + 1 = k) ∨ clash out c.l = true then none else loadL k (n + 1) (out ++ c.l) cs
theorem clash_of {a b : List Sp} (h : Rise (a ++ b)) : clash a b = false := by
  unfold clash
  split
  · rename_i x y hx hy
    have h1 := List.mem_of_getLast? hx
    have h2 := List.mem_of_head? hy
    have := (List.pairwise_append.1 h.2).2.2 x h1 y h2
    simp [this]
  · rfl
theorem loadL_of {l : List Sp} (h : Rise l) : ∀ (m j : Nat), j + m = nCk l → loadL (nCk l) j (l.take (16 * j)) ((List.range' j m).map (ckAt l)) = some l
  | 0, j, hj => by
    have : l.length ≤ 16 * j := by unfold nCk at hj; omega
    show some (l.take (16 * j)) = some l
    rw [List.take_of_length_le this]
  | m + 1, j, hj => by
    have h1 : l.take (16 * j) ++ (l.drop (16 * j)).take 16 = l.take (16 * (j + 1)) := by
      rw [← List.take_add, Nat.mul_add]
    rw [List.range'_succ, List.map_cons]
    unfold loadL
    have h2 : (ckAt l j).l = (l.drop (16 * j)).take 16 := rfl
    have h3 : clash (l.take (16 * j)) (ckAt l j).l = false := clash_of (by rw [h2, h1]; exact h.sub (List.take_sublist ..))
    have h4 : (ckAt l j).last = decide (j + 1 = nCk l) := by
      show decide _ = decide _
      rw [decide_eq_decide]
      unfold nCk at hj ⊢
      omega
    rw [if_neg (by rw [h3, h4]; simp), h2, h1]
    exact loadL_of h m (j + 1) (by omega)
/-- what was cut into chunks is loaded -/
theorem load_cut {l : List Sp} (h : Rise l) : loadL (nCk l) 0 [] ((List.range (nCk l)).map (ckAt l)) = some l := by
  rw [List.range_eq_range']
  exact loadL_of h (nCk l) 0 (by omega)

/-- a writer that was given pairs: how many chunks it wrote -/
def wN (l : List Sp) : Nat := (l.length - 1) / 16
/-- what it holds back -/
def wRest (l : List Sp) : List Sp := l.drop (16 * wN l)
theorem wRest_len (l : List Sp) : (wRest l).length ≤ 16 := by unfold wRest wN; rw [List.length_drop]; omega
/-- one turn of its loop: pairs `l`, of which `n` chunks are written, more than a chunk being left -/
theorem put_turn {l : List Sp} {n : Nat} (h : 16 < (l.drop (16 * n)).length) :
    n < wN l ∧ ckAt l n = ⟨n, false, (l.drop (16 * n)).take 16⟩ ∧ (l.drop (16 * n)).drop 16 = l.drop (16 * (n + 1)) := by
  rw [List.length_drop] at h
  refine ⟨by unfold wN; omega, ?_, by rw [List.drop_drop, Nat.mul_add]⟩
  unfold ckAt
  rw [decide_eq_false (by omega)]
/-- its end -/
theorem put_end {l : List Sp} {n : Nat} (hn : n ≤ wN l) (h : ¬ 16 < (l.drop (16 * n)).length) : n = wN l ∧ l.drop (16 * n) = wRest l := by
  rw [List.length_drop] at h
  have : n = wN l := by unfold wN at hn ⊢; omega
  subst this
  exact ⟨rfl, rfl⟩
/-- more pairs: what it holds and they are the pairs behind what it wrote -/
theorem put_more (l m : List Sp) : wRest l ++ m = (l ++ m).drop (16 * wN l) ∧ wN l ≤ wN (l ++ m) := by
  constructor
  · unfold wRest
    rw [List.drop_append_of_le_length (by unfold wN; omega)]
  · unfold wN
    rw [List.length_append]
    omega
/-- the last chunk -/
theorem done_ck (l : List Sp) : ckAt l (wN l) = ⟨wN l, true, wRest l⟩ ∧ nCk l = wN l + 1 := by
  refine ⟨?_, rfl⟩
  have h1 := wRest_len l
  unfold ckAt
  rw [decide_eq_true (by unfold wN; omega)]
  unfold wRest at h1 ⊢
  rw [List.take_of_length_le h1]
end Go.Gsl

namespace Go.Gsl
set_option linter.unusedVariables false
open Go.Proofs

set_option maxHeartbeats 1000000 in
theorem cPutText_ok (k : Nat) (r : HProp) (v : Value) (bs s : List Int) (h : RdB r v bs) (hl : bs.length ≤ 35184372088832) (hs : s.length ≤ 35184372088832) (hb : Byt s) : Spec Try.prog 113 [v, .string (strB s)] [k] [r]
    fun F w Rs' => ∃ b t, w = .slice (some ⟨b, 0, none⟩) (bs ++ txtB s).length ((bs ++ txtB s).length + t.length) ∧ Rs' = (b, pts b (.cells ((bs ++ txtB s).map (Value.int .u8) ++ t).toArray 5 (0, 0))) :: (k, r) :: F := by
  refine spec_of Try.func113 rfl Try.ntmps113 rfl ?_
  intro w0 F
  have hw := width_in (s.length : Int)
  have hil := intB_len (s.length : Int)
  repeat' (first | with_reducible refine sw_in (by omega) ?_ | with_reducible (first | refine go1 ?_ | refine sct ?_ | refine scf ?_ | refine sgr ?_) | ((with_reducible refine sw_call (cPutInt_ok k r v bs s.length h (by omega) (by omega)) ?_); rintro _ _ ⟨b2, t2, rfl, rfl⟩) | fail)
  refine sw_appendStr s hb ⟨by omega, by simp; omega, by simp; omega, by simp; omega⟩ fun b' t => ?_
  repeat' (first | with_reducible (first | refine go1 ?_ | refine sct ?_ | refine scf ?_ | refine sgr ?_) | fail)
  have he : bs ++ txtB s = bs ++ intB s.length ++ s := by unfold txtB; rw [List.append_assoc]
  rw [he]
  refine sq_ret1 Try.results113 ?_
  refine ⟨_, ⟨b', t, ?_, rfl⟩, ?_⟩
  · simp only [List.length_append]
  · rw [List.take_left' (by simp), ← List.map_append]
    repeat' (first | with_reducible exact Ent.refl _ | with_reducible refine Ent.take_eq ?_ ?_ | rfl | with_reducible refine Ent.trans (Ent.drop _ _) ?_)

theorem cPutFlag_ok (k : Nat) (r : HProp) (v : Value) (bs : List Int) (y : Bool) (h : RdB r v bs) (hl : bs.length ≤ 70368744177664) : Spec Try.prog 112 [v, .bool y] [k] [r]
    fun F w Rs' => ∃ b t, w = .slice (some ⟨b, 0, none⟩) (bs ++ flagB y).length ((bs ++ flagB y).length + t.length) ∧ Rs' = (b, pts b (.cells ((bs ++ flagB y).map (Value.int .u8) ++ t).toArray 5 (0, 0))) :: (k, r) :: F := by
  refine spec_of Try.func112 rfl Try.ntmps112 rfl ?_
  intro w0 F
  cases y
  · repeat' (first | with_reducible (first | refine go1 ?_ | refine sct ?_ | refine scf ?_ | refine sgr ?_) | ((with_reducible refine sw_call (cPutInt_ok k r v bs 0 h (by omega) (by omega)) ?_); rintro _ _ ⟨b2, t2, rfl, rfl⟩) | (with_reducible refine sc_cond (fun h => ?_) (fun h => ?_)) <;> (try (exfalso; first | contradiction | omega | exact h Iff.rfl)) | fail)
    refine sq_ret1 Try.results112 ?_
    exact ⟨_, ⟨b2, t2, rfl, rfl⟩, Ent.refl _⟩
  · repeat' (first | with_reducible (first | refine go1 ?_ | refine sct ?_ | refine scf ?_ | refine sgr ?_) | ((with_reducible refine sw_call (cPutInt_ok k r v bs 1 h (by omega) (by omega)) ?_); rintro _ _ ⟨b2, t2, rfl, rfl⟩) | (with_reducible refine sc_cond (fun h => ?_) (fun h => ?_)) <;> (try (exfalso; first | contradiction | omega | exact h Iff.rfl)) | fail)
    refine sq_ret1 Try.results112 ?_
    exact ⟨_, ⟨b2, t2, rfl, rfl⟩, Ent.refl _⟩

set_option maxHeartbeats 1000000 in
theorem cFlag_ok (k : Nat) (r : HProp) (v : Value) (bs : List Int) (hv : RdB r v bs) (hb : Byt bs) (hl : bs.length ≤ 140737488355328) : Spec Try.prog 65 [v] [k] [r]
    fun F w Rs' => w = .tuple #[.bool (takeFlag bs).1, .int .i64 (takeFlag bs).2.1, .int .i64 (takeFlag bs).2.2] ∧ Rs' = (k, r) :: F := by
  refine spec_of Try.func65 rfl Try.ntmps65 rfl ?_
  intro w0 F
  have htk := takeInt_ok hb
  repeat' (first | with_reducible (first | refine go1 ?_ | refine sct ?_ | refine scf ?_ | refine sgr ?_) | ((with_reducible refine sw_call (cInt_ok k r v bs hv hb hl) ?_); rintro _ _ ⟨rfl, rfl⟩) | fail)
  unfold takeFlag
  generalize takeInt bs = T at htk ⊢
  rcases T with ⟨n, K, e⟩
  simp only at htk ⊢
  repeat' (first | with_reducible refine sw_in (by omega) ?_ | with_reducible (first | refine go1 ?_ | refine sct ?_ | refine scf ?_ | refine sgr ?_) | (with_reducible refine sc_cond (fun h => ?_) (fun h => ?_)) <;> (try (exfalso; first | contradiction | omega | exact h Iff.rfl)) | (with_reducible refine sw_guard_split (fun h => ?_) (fun h => ?_)) <;> (try (exfalso; first | contradiction | omega | exact h Iff.rfl)) | (with_reducible refine sw_pick (fun h => ?_) (fun h => ?_)) <;> (try (exfalso; first | contradiction | omega | exact h Iff.rfl)) | fail)
  · rw [if_neg (by omega), if_pos (by omega)]
    refine sq_ret3 Try.results65 ?_
    exact ⟨_, ⟨rfl, rfl⟩, Ent.refl _⟩
  · rw [if_neg (by omega), if_neg (by omega)]
    refine sq_ret3 Try.results65 ?_
    have he : e = 0 := by omega
    subst he
    exact ⟨_, ⟨rfl, rfl⟩, Ent.refl _⟩
  · rw [if_neg (by omega), if_neg (by omega)]
    refine sq_ret3 Try.results65 ?_
    have he : e = 0 := by omega
    subst he
    exact ⟨_, ⟨rfl, rfl⟩, Ent.refl _⟩
  · rw [if_pos (by omega)]
    refine sq_ret3 Try.results65 ?_
    exact ⟨_, ⟨rfl, rfl⟩, Ent.refl _⟩

set_option maxHeartbeats 1000000 in
theorem cText_ok (k : Nat) (r : HProp) (v : Value) (bs : List Int) (hv : RdB r v bs) (hb : Byt bs) (hl : bs.length ≤ 70368744177664) : Spec Try.prog 67 [v] [k] [r]
    fun F w Rs' => w = .tuple #[.string (strB (takeTxt bs).1), .int .i64 (takeTxt bs).2.1, .int .i64 (takeTxt bs).2.2] ∧ Rs' = (k, r) :: F := by
  refine spec_of Try.func67 rfl Try.ntmps67 rfl ?_
  intro w0 F
  obtain ⟨a, c, rfl, hsome, hc, hr⟩ := hv.gen
  have htk := takeInt_ok hb
  repeat' (first | with_reducible (first | refine go1 ?_ | refine sct ?_ | refine scf ?_ | refine sgr ?_) | ((with_reducible refine sw_call (cInt_ok k r _ bs hv hb (by omega)) ?_); rintro _ _ ⟨rfl, rfl⟩) | fail)
  unfold takeTxt
  generalize takeInt bs = T at htk ⊢
  rcases T with ⟨n, K, e⟩
  simp only at htk ⊢
  repeat' (first | with_reducible refine sw_in (by omega) ?_ | with_reducible (first | refine go1 ?_ | refine sct ?_ | refine scf ?_ | refine sgr ?_) | (with_reducible refine sc_cond (fun h => ?_) (fun h => ?_)) <;> (try (exfalso; first | contradiction | omega | exact h Iff.rfl)) | (with_reducible refine sw_guard_split (fun h => ?_) (fun h => ?_)) <;> (try (exfalso; first | contradiction | omega | exact h Iff.rfl)) | (with_reducible refine sw_pick (fun h => ?_) (fun h => ?_)) <;> (try (exfalso; first | contradiction | omega | exact h Iff.rfl)) | fail)
  · rw [if_pos (by omega)]
    refine sq_ret3 Try.results67 ?_
    exact ⟨_, ⟨rfl, rfl⟩, Ent.refl _⟩
  · rw [if_neg (by omega), if_pos (by omega)]
    refine sq_ret3 Try.results67 ?_
    exact ⟨_, ⟨rfl, rfl⟩, Ent.refl _⟩
  · rw [if_neg (by omega), if_neg (by omega), if_pos (by omega)]
    refine sq_ret3 Try.results67 ?_
    exact ⟨_, ⟨rfl, rfl⟩, Ent.refl _⟩
  · rw [if_neg (by omega), if_neg (by omega), if_neg (by omega)]
    have hK := htk (by omega)
    obtain ⟨K, rfl⟩ : ∃ K' : Nat, K = K' := ⟨K.toNat, by omega⟩
    obtain ⟨N, rfl⟩ : ∃ N : Nat, n = N := ⟨n.toNat, by omega⟩
    obtain ⟨b, o, rfl⟩ := hsome (by omega)
    refine sw_slice K (K + N) c (if c = K then o else o + K) (by omega) ⟨by omega, by omega, rfl, rfl⟩ ?_
    have hsub := RdB.sub hc hr K N (by omega)
    obtain ⟨a2, c2, ha2, hs2, hc2, hr2⟩ := hsub.gen
    cases ha2
    have hr3 : Reads r (some ⟨b, if c = K then o else o + K, none⟩) (((bs.drop K).take N).map (Value.int .u8)) := by
      split
      · have hN : N = 0 := by omega
        subst hN
        intro hp w hr' hf j v hj
        simp at hj
      · exact hr2
    refine sw_bytes ((bs.drop K).take N) (fun w hw => hr3.sat (k := k) hw) (by rw [List.length_take, List.length_drop]; omega) ?_
    repeat' (first | with_reducible (first | refine go1 ?_ | refine sct ?_ | refine scf ?_ | refine sgr ?_) | fail)
    rw [Int.toNat_natCast, Int.toNat_natCast]
    refine sq_ret3 Try.results67 ?_
    exact ⟨_, ⟨rfl, rfl⟩, Ent.refl _⟩

/-- what the text of bytes takes -/
theorem takeTxt_ok {bs : List Int} (hb : Byt bs) (h : (takeTxt bs).2.2 = 0) : 0 ≤ (takeTxt bs).2.1 ∧ (takeTxt bs).2.1 ≤ bs.length := by
  have htk := takeInt_ok hb
  unfold takeTxt at h ⊢
  repeat' split at h
  · rename_i h1
    exact absurd h h1
  · cases h
  · cases h
  · rename_i h1 h2 h3
    have := htk (by omega)
    rw [if_neg (by omega), if_neg (by omega), if_neg (by omega)]
    simp only
    omega
theorem takeTxt_byt {bs : List Int} (hb : Byt bs) : Byt (takeTxt bs).1 ∧ (takeTxt bs).1.length ≤ bs.length := by
  unfold takeTxt
  repeat' split
  · exact ⟨fun x hx => (by cases hx), by simp⟩
  · exact ⟨fun x hx => (by cases hx), by simp⟩
  · exact ⟨fun x hx => (by cases hx), by simp⟩
  · exact ⟨hb.sub _ _, by simp only [List.length_take, List.length_drop]; omega⟩
theorem takeFlag_ok {bs : List Int} (hb : Byt bs) (h : (takeFlag bs).2.2 = 0) : 0 ≤ (takeFlag bs).2.1 ∧ (takeFlag bs).2.1 ≤ bs.length := by
  have htk := takeInt_ok hb
  unfold takeFlag at h ⊢
  repeat' split at h
  · rename_i h1
    exact absurd h h1
  · cases h
  · rename_i h1 h2
    have := htk (by omega)
    rw [if_neg (by omega), if_neg h2]
    simp only
    omega
theorem nxt_ok {α : Type} {z : α} {take : List Int → α × Int × Int} {bs : List Int} {st : Nat × Int} (ht : (take (bs.drop st.1)).2.2 = 0 → (take (bs.drop st.1)).2.1 ≤ (bs.drop st.1).length) (h : st.1 ≤ bs.length) : (nxt z take bs st).2.1 ≤ bs.length := by
  unfold nxt
  split
  · exact h
  · split
    · exact h
    · have := ht (by omega)
      rw [List.length_drop] at this
      simp only
      omega

set_option maxHeartbeats 1000000 in
theorem rcNextS_ok (p k : Nat) (r : HProp) (b o c : Nat) (bs : List Int) (st : Nat × Int) (hc : bs.length ≤ c) (hr : Reads r (some ⟨b, o, none⟩) (bs.map (Value.int .u8))) (hb : Byt bs) (hl : bs.length ≤ 70368744177664) (hst : st.1 ≤ bs.length) :
    Spec Try.prog 66 [.pointer (some ⟨p, 0, none⟩), .func (.func 67) #[] #[]] [p, k] [pts p (.cells (Rdr (.slice (some ⟨b, o, none⟩) bs.length c) st).toArray 100 (0, 0)), r]
    fun F w Rs' => w = .string (strB (nxt [] takeTxt bs st).1) ∧ Rs' = (p, pts p (.cells (Rdr (.slice (some ⟨b, o, none⟩) bs.length c) (nxt [] takeTxt bs st).2).toArray 100 (0, 0))) :: (k, r) :: F := by
  refine spec_of Try.func66 rfl Try.ntmps66 rfl ?_
  intro w0 F
  have hbd : Byt (bs.drop st.1) := fun x hx => hb x (List.mem_of_mem_drop hx)
  have htk := takeTxt_ok hbd
  have hld : (bs.drop st.1).length = bs.length - st.1 := List.length_drop
  unfold nxt
  repeat' (first | with_reducible (first | refine go1 ?_ | refine sct ?_ | refine scf ?_ | refine sgr ?_) | (with_reducible refine sc_cond (fun h => ?_) (fun h => ?_)) <;> (try (exfalso; first | contradiction | omega | exact h Iff.rfl)) | fail)
  · rw [if_pos h]
    refine sq_ret1 Try.results66 ?_
    exact ⟨_, ⟨rfl, rfl⟩, Ent.refl _⟩
  have hst2 : st.2 = 0 := by omega
  rw [if_neg h]
  obtain ⟨at', e'⟩ := st
  simp only at hbd htk hld hst hst2 ⊢
  subst hst2
  have hsub := RdB.tail hc hr at' hst
  refine sc_lin ([(p, pts p (.cells (Rdr (.slice (some ⟨b, o, none⟩) bs.length c) (at', 0)).toArray 100 (0, 0)))]) (llp 0 (llp 1 (llp 2 (llp 3 (llp 4 (llp 5 (llp 6 (llp 7 (llp 8 (llp 9 (lle 10 (llp 11 (llp 12 (llp 13 (llp 14 (llp 15 (llp 16 (llp 17 ll0)))))))))))))))))) (by kernel_rfl) rfl (by kernel_rfl) ?_
  all_goals (iterate 9 refine go1l ?_)
  all_goals refine sl_take (h := runop_slice at' bs.length c (if c = at' then o else o + at') (by omega) ⟨rfl, rfl, rfl, rfl⟩) ?_
  all_goals refine sl_eff ?_
  all_goals (repeat' (first | with_reducible (first | refine go1 ?_ | refine sct ?_ | refine scf ?_ | refine sgr ?_) | ((with_reducible refine sw_callf (cText_ok k r _ (bs.drop at') hsub hbd (by omega)) ?_); rintro _ _ ⟨rfl, rfl⟩) | with_reducible refine sl_back ?_ | fail))
  all_goals (iterate 7 refine go1l ?_)
  all_goals refine sl_done ?_
  generalize takeTxt (bs.drop at') = T at htk ⊢
  rcases T with ⟨n, K, e⟩
  simp only at htk ⊢
  repeat' (first | with_reducible (first | refine go1 ?_ | refine sct ?_ | refine scf ?_ | refine sgr ?_) | (with_reducible refine sc_cond (fun h => ?_) (fun h => ?_)) <;> (try (exfalso; first | contradiction | omega | exact h Iff.rfl)) | fail)
  · rw [if_pos h]
    refine sw_store ?_
    repeat' (first | with_reducible (first | refine go1 ?_ | refine sct ?_ | refine scf ?_ | refine sgr ?_) | fail)
    refine sq_ret1 Try.results66 ?_
    exact ⟨_, ⟨rfl, rfl⟩, Ent.refl _⟩
  · rw [if_neg h]
    obtain ⟨h1, h2⟩ := htk (by omega)
    dsimp only [Rdr]
    have hK : (at' : Int) + K = ((at' + K.toNat : Nat) : Int) := by omega
    rw [hK, IntWalk.i64_in _ (by omega)]
    refine sw_store ?_
    repeat' (first | with_reducible (first | refine go1 ?_ | refine sct ?_ | refine scf ?_ | refine sgr ?_) | fail)
    refine sq_ret1 Try.results66 ?_
    exact ⟨_, ⟨rfl, rfl⟩, Ent.refl _⟩
set_option maxHeartbeats 1000000 in
theorem rcNextB_ok (p k : Nat) (r : HProp) (b o c : Nat) (bs : List Int) (st : Nat × Int) (hc : bs.length ≤ c) (hr : Reads r (some ⟨b, o, none⟩) (bs.map (Value.int .u8))) (hb : Byt bs) (hl : bs.length ≤ 70368744177664) (hst : st.1 ≤ bs.length) :
    Spec Try.prog 64 [.pointer (some ⟨p, 0, none⟩), .func (.func 65) #[] #[]] [p, k] [pts p (.cells (Rdr (.slice (some ⟨b, o, none⟩) bs.length c) st).toArray 100 (0, 0)), r]
    fun F w Rs' => w = .bool (nxt false takeFlag bs st).1 ∧ Rs' = (p, pts p (.cells (Rdr (.slice (some ⟨b, o, none⟩) bs.length c) (nxt false takeFlag bs st).2).toArray 100 (0, 0))) :: (k, r) :: F := by
  refine spec_of Try.func64 rfl Try.ntmps64 rfl ?_
  intro w0 F
  have hbd : Byt (bs.drop st.1) := fun x hx => hb x (List.mem_of_mem_drop hx)
  have htk := takeFlag_ok hbd
  have hld : (bs.drop st.1).length = bs.length - st.1 := List.length_drop
  unfold nxt
  repeat' (first | with_reducible (first | refine go1 ?_ | refine sct ?_ | refine scf ?_ | refine sgr ?_) | (with_reducible refine sc_cond (fun h => ?_) (fun h => ?_)) <;> (try (exfalso; first | contradiction | omega | exact h Iff.rfl)) | fail)
  · rw [if_pos h]
    refine sq_ret1 Try.results64 ?_
    exact ⟨_, ⟨rfl, rfl⟩, Ent.refl _⟩
  have hst2 : st.2 = 0 := by omega
  rw [if_neg h]
  obtain ⟨at', e'⟩ := st
  simp only at hbd htk hld hst hst2 ⊢
  subst hst2
  have hsub := RdB.tail hc hr at' hst
  refine sc_lin ([(p, pts p (.cells (Rdr (.slice (some ⟨b, o, none⟩) bs.length c) (at', 0)).toArray 100 (0, 0)))]) (llp 0 (llp 1 (llp 2 (llp 3 (llp 4 (llp 5 (llp 6 (llp 7 (llp 8 (llp 9 (lle 10 (llp 11 (llp 12 (llp 13 (llp 14 (llp 15 (llp 16 (llp 17 ll0)))))))))))))))))) (by kernel_rfl) rfl (by kernel_rfl) ?_
  all_goals (iterate 9 refine go1l ?_)
  all_goals refine sl_take (h := runop_slice at' bs.length c (if c = at' then o else o + at') (by omega) ⟨rfl, rfl, rfl, rfl⟩) ?_
  all_goals refine sl_eff ?_
  all_goals (repeat' (first | with_reducible (first | refine go1 ?_ | refine sct ?_ | refine scf ?_ | refine sgr ?_) | ((with_reducible refine sw_callf (cFlag_ok k r _ (bs.drop at') hsub hbd (by omega)) ?_); rintro _ _ ⟨rfl, rfl⟩) | with_reducible refine sl_back ?_ | fail))
  all_goals (iterate 7 refine go1l ?_)
  all_goals refine sl_done ?_
  generalize takeFlag (bs.drop at') = T at htk ⊢
  rcases T with ⟨n, K, e⟩
  simp only at htk ⊢
  repeat' (first | with_reducible (first | refine go1 ?_ | refine sct ?_ | refine scf ?_ | refine sgr ?_) | (with_reducible refine sc_cond (fun h => ?_) (fun h => ?_)) <;> (try (exfalso; first | contradiction | omega | exact h Iff.rfl)) | fail)
  · rw [if_pos h]
    refine sw_store ?_
    repeat' (first | with_reducible (first | refine go1 ?_ | refine sct ?_ | refine scf ?_ | refine sgr ?_) | fail)
    refine sq_ret1 Try.results64 ?_
    exact ⟨_, ⟨rfl, rfl⟩, Ent.refl _⟩
  · rw [if_neg h]
    obtain ⟨h1, h2⟩ := htk (by omega)
    dsimp only [Rdr]
    have hK : (at' : Int) + K = ((at' + K.toNat : Nat) : Int) := by omega
    rw [hK, IntWalk.i64_in _ (by omega)]
    refine sw_store ?_
    repeat' (first | with_reducible (first | refine go1 ?_ | refine sct ?_ | refine scf ?_ | refine sgr ?_) | fail)
    refine sq_ret1 Try.results64 ?_
    exact ⟨_, ⟨rfl, rfl⟩, Ent.refl _⟩
end Go.Gsl

namespace Go.Gsl
set_option linter.unusedVariables false
open Go.Proofs

theorem rcText_ok (p k : Nat) (r : HProp) (b o c : Nat) (bs : List Int) (st : Nat × Int) (hc : bs.length ≤ c) (hr : Reads r (some ⟨b, o, none⟩) (bs.map (Value.int .u8))) (hb : Byt bs) (hl : bs.length ≤ 70368744177664) (hst : st.1 ≤ bs.length) :
    Spec Try.prog 53 [.pointer (some ⟨p, 0, none⟩)] [p, k] [pts p (.cells (Rdr (.slice (some ⟨b, o, none⟩) bs.length c) st).toArray 100 (0, 0)), r]
    fun F w Rs' => w = .string (strB (nxt [] takeTxt bs st).1) ∧ Rs' = (p, pts p (.cells (Rdr (.slice (some ⟨b, o, none⟩) bs.length c) (nxt [] takeTxt bs st).2).toArray 100 (0, 0))) :: (k, r) :: F := by
  refine spec_of Try.func53 rfl Try.ntmps53 rfl ?_
  intro w0 F
  repeat' (first | with_reducible (first | refine go1 ?_ | refine sct ?_ | refine scf ?_ | refine sgr ?_) | ((with_reducible refine sw_call (rcNextS_ok p k r b o c bs st hc hr hb hl hst) ?_); rintro _ _ ⟨rfl, rfl⟩) | fail)
  refine sq_ret1 Try.results53 ?_
  exact ⟨_, ⟨rfl, rfl⟩, Ent.refl _⟩
theorem rcFlag_ok (p k : Nat) (r : HProp) (b o c : Nat) (bs : List Int) (st : Nat × Int) (hc : bs.length ≤ c) (hr : Reads r (some ⟨b, o, none⟩) (bs.map (Value.int .u8))) (hb : Byt bs) (hl : bs.length ≤ 70368744177664) (hst : st.1 ≤ bs.length) :
    Spec Try.prog 51 [.pointer (some ⟨p, 0, none⟩)] [p, k] [pts p (.cells (Rdr (.slice (some ⟨b, o, none⟩) bs.length c) st).toArray 100 (0, 0)), r]
    fun F w Rs' => w = .bool (nxt false takeFlag bs st).1 ∧ Rs' = (p, pts p (.cells (Rdr (.slice (some ⟨b, o, none⟩) bs.length c) (nxt false takeFlag bs st).2).toArray 100 (0, 0))) :: (k, r) :: F := by
  refine spec_of Try.func51 rfl Try.ntmps51 rfl ?_
  intro w0 F
  repeat' (first | with_reducible (first | refine go1 ?_ | refine sct ?_ | refine scf ?_ | refine sgr ?_) | ((with_reducible refine sw_call (rcNextB_ok p k r b o c bs st hc hr hb hl hst) ?_); rintro _ _ ⟨rfl, rfl⟩) | fail)
  refine sq_ret1 Try.results51 ?_
  exact ⟨_, ⟨rfl, rfl⟩, Ent.refl _⟩

theorem rcKey_ok (s : List Int) (hb : Byt s) : Spec Try.prog 115 [.string (strB s)] [] [] fun F w Rs' => w = .int .i64 (if s.length = 0 ∨ 64 < s.length then 30 else 0) ∧ Rs' = F := by
  refine spec_of Try.func115 rfl Try.ntmps115 rfl ?_
  intro w0 F
  have he : strB s = ByteArray.mk #[] ↔ s = [] := strB_inj (b := []) hb (fun x hx => by cases hx)
  have hn : s = [] ↔ s.length = 0 := List.length_eq_zero_iff.symm
  rw [hn] at he
  clear hn
  repeat' (first | with_reducible (first | refine go1 ?_ | refine sct ?_ | refine scf ?_ | refine sgr ?_) | (with_reducible refine sc_cond (fun h => ?_) (fun h => ?_)) <;> (try (exfalso; first | contradiction | omega | exact h Iff.rfl)) | (with_reducible refine sw_guard_split (fun h => ?_) (fun h => ?_)) <;> (try (exfalso; first | contradiction | omega | exact h Iff.rfl)) | (with_reducible refine sw_pick (fun h => ?_) (fun h => ?_)) <;> (try (exfalso; first | contradiction | omega | exact h Iff.rfl)) | fail)
  · have := he.1 h
    refine sq_ret1 Try.results115 ?_
    exact ⟨_, ⟨by rw [if_pos (by omega)], rfl⟩, Ent.refl _⟩
  · refine sq_ret1 Try.results115 ?_
    exact ⟨_, ⟨by rw [if_pos (by omega)], rfl⟩, Ent.refl _⟩
  · rename_i h0
    have : ¬ s.length = 0 := fun h' => h0 (he.2 h')
    refine sq_ret1 Try.results115 ?_
    exact ⟨_, ⟨by rw [if_neg (by omega)], rfl⟩, Ent.refl _⟩
theorem rcValue_ok (s : List Int) : Spec Try.prog 116 [.string (strB s)] [] [] fun F w Rs' => w = .int .i64 (if 256 < s.length then 31 else 0) ∧ Rs' = F := by
  refine spec_of Try.func116 rfl Try.ntmps116 rfl ?_
  intro w0 F
  repeat' (first | with_reducible (first | refine go1 ?_ | refine sct ?_ | refine scf ?_ | refine sgr ?_) | (with_reducible refine sc_cond (fun h => ?_) (fun h => ?_)) <;> (try (exfalso; first | contradiction | omega | exact h Iff.rfl)) | fail)
  · refine sq_ret1 Try.results116 ?_
    exact ⟨_, ⟨by rw [if_pos (by omega)], rfl⟩, Ent.refl _⟩
  · refine sq_ret1 Try.results116 ?_
    exact ⟨_, ⟨by rw [if_neg (by omega)], rfl⟩, Ent.refl _⟩

set_option maxHeartbeats 1000000 in
theorem rcMany_ok (p k : Nat) (r : HProp) (b o c : Nat) (bs : List Int) (st : Nat × Int) (most : Int) (hc : bs.length ≤ c) (hr : Reads r (some ⟨b, o, none⟩) (bs.map (Value.int .u8))) (hb : Byt bs) (hl : bs.length ≤ 70368744177664) (hst : st.1 ≤ bs.length) :
    Spec Try.prog 52 [.pointer (some ⟨p, 0, none⟩), .int .i64 most] [p, k] [pts p (.cells (Rdr (.slice (some ⟨b, o, none⟩) bs.length c) st).toArray 100 (0, 0)), r]
    fun F w Rs' => w = .int .i64 (manyN most bs st).1 ∧ Rs' = (p, pts p (.cells (Rdr (.slice (some ⟨b, o, none⟩) bs.length c) (manyN most bs st).2).toArray 100 (0, 0))) :: (k, r) :: F := by
  refine spec_of Try.func52 rfl Try.ntmps52 rfl ?_
  intro w0 F
  repeat' (first | with_reducible (first | refine go1 ?_ | refine sct ?_ | refine scf ?_ | refine sgr ?_) | ((with_reducible refine sw_call (rcNum_ok p k r b o c bs st hc hr hb hl hst) ?_); rintro _ _ ⟨rfl, rfl⟩) | fail)
  rw [num_nxt]
  unfold manyN
  simp only
  generalize nxt 0 takeInt bs st = T
  rcases T with ⟨n, a, e⟩
  simp only
  dsimp only [Rdr]
  repeat' (first | with_reducible (first | refine go1 ?_ | refine sct ?_ | refine scf ?_ | refine sgr ?_) | with_reducible refine sw_guard_skip_u ?_ | (with_reducible refine sc_cond (fun h => ?_) (fun h => ?_)) <;> (try (exfalso; first | contradiction | omega | exact h Iff.rfl)) | (with_reducible refine sw_guard_split (fun h => ?_) (fun h => ?_)) <;> (try (exfalso; first | contradiction | omega | exact h Iff.rfl)) | (with_reducible refine sw_pick (fun h => ?_) (fun h => ?_)) <;> (try (exfalso; first | contradiction | omega | exact h Iff.rfl)) | fail)
  · rw [if_neg (by omega), if_pos (by omega)]
    refine sw_store ?_
    repeat' (first | with_reducible (first | refine go1 ?_ | refine sct ?_ | refine scf ?_ | refine sgr ?_) | (with_reducible refine sc_cond (fun h => ?_) (fun h => ?_)) <;> (try (exfalso; first | contradiction | omega | exact h Iff.rfl)) | fail)
    refine sq_ret1 Try.results52 ?_
    exact ⟨_, ⟨rfl, rfl⟩, Ent.refl _⟩
  · rw [if_neg (by omega), if_pos (by omega)]
    refine sw_store ?_
    repeat' (first | with_reducible (first | refine go1 ?_ | refine sct ?_ | refine scf ?_ | refine sgr ?_) | (with_reducible refine sc_cond (fun h => ?_) (fun h => ?_)) <;> (try (exfalso; first | contradiction | omega | exact h Iff.rfl)) | fail)
    refine sq_ret1 Try.results52 ?_
    exact ⟨_, ⟨rfl, rfl⟩, Ent.refl _⟩
  · rw [if_neg (by omega), if_neg (by omega)]
    refine sq_ret1 Try.results52 ?_
    exact ⟨_, ⟨rfl, rfl⟩, Ent.refl _⟩
  · rw [if_pos (by omega)]
    refine sq_ret1 Try.results52 ?_
    exact ⟨_, ⟨rfl, rfl⟩, Ent.refl _⟩
end Go.Gsl

namespace Go.Gsl
set_option linter.unusedVariables false
open Go.Proofs

def firstE : List Int → Int
  | [] => 0
  | e :: l => if e ≠ 0 then e else firstE l

set_option maxHeartbeats 1000000 in
theorem rcFirst_ok (b : Nat) (es : List Int) (hl : es.length ≤ 1000) : Spec Try.prog 114 [.slice (some ⟨b, 0, none⟩) es.length es.length] [b] [pts b (.cells (es.map (Value.int .i64)).toArray 29 (0, 0))]
    fun F w Rs' => w = .int .i64 (firstE es) ∧ Rs' = (b, pts b (.cells (es.map (Value.int .i64)).toArray 29 (0, 0))) :: F := by
  refine spec_of Try.func114 rfl Try.ntmps114 rfl ?_
  intro w0 F
  repeat' (first | with_reducible (first | refine go1 ?_ | refine sct ?_ | refine scf ?_ | refine sgr ?_) | fail)
  refine sc_loop (α := { i : Nat // i ≤ es.length ∧ firstE es = firstE (es.drop i) }) (fun i => [(2, .int .i64 0), (5, .slice (some ⟨b, 0, none⟩) es.length es.length), (6, .int .i64 (es.length : Int)), (7, .int .i64 (i.1 : Int))])
    (fun _ => (b, pts b (.cells (es.map (Value.int .i64)).toArray 29 (0, 0))) :: F) (fun i => es.length - i.1) ⟨0, Nat.zero_le _, rfl⟩ ?_ ?_ ?_
  · repeat' (first | exact says_nil | refine says_cons rfl ?_ | refine says_cons (by simp) ?_)
  · exact Ent.refl _
  rintro ⟨i, hi, hf⟩ e
  (try simp only at hi hf)
  simp only [List.cons_append, List.nil_append]
  repeat' (first | with_reducible refine sw_in (by omega) ?_ | with_reducible (first | refine go1 ?_ | refine sct ?_ | refine scf ?_ | refine sgr ?_) | (with_reducible refine sc_cond (fun h => ?_) (fun h => ?_)) <;> (try (exfalso; first | contradiction | omega | exact h Iff.rfl)) | fail)
  · have hi2 : i < es.length := by omega
    have hri : es[i]? = some es[i] := List.getElem?_eq_getElem hi2
    have hd : firstE (es.drop i) = if es[i] ≠ 0 then es[i] else firstE (es.drop (i + 1)) := by rw [List.drop_eq_getElem_cons hi2]; rfl
    refine sw_idx i ⟨rfl, by omega⟩ ?_
    refine sw_loadAt (.int .i64 es[i]) (by rw [List.getElem?_map, hri]; rfl) ?_
    have hg := hf.trans hd
    clear hd
    generalize es[i] = x at hg ⊢
    repeat' (first | with_reducible refine sw_in (by omega) ?_ | with_reducible (first | refine go1 ?_ | refine sct ?_ | refine scf ?_ | refine sgr ?_) | (with_reducible refine sc_cond (fun h => ?_) (fun h => ?_)) <;> (try (exfalso; first | contradiction | omega | exact h Iff.rfl)) | fail)
    · rw [if_pos h] at hg
      refine sq_ret1 Try.results114 ?_
      exact ⟨_, ⟨by rw [hg], rfl⟩, Ent.refl _⟩
    · rw [if_neg h] at hg
      refine sq_round ⟨i + 1, by omega, hg⟩ ?_ ?_ ?_
      · show es.length - (i + 1) < es.length - i
        omega
      · repeat' (first | exact says_nil | refine says_cons rfl ?_ | refine says_cons (by simp) ?_)
      · exact Ent.refl _
  · have hn : es.drop i = [] := List.drop_eq_nil_of_le (by omega)
    have hg : firstE es = 0 := by rw [hf, hn]; rfl
    repeat' (first | with_reducible (first | refine go1 ?_ | refine sct ?_ | refine scf ?_ | refine sgr ?_) | fail)
    refine sq_ret1 Try.results114 ?_
    exact ⟨_, ⟨by rw [hg], rfl⟩, Ent.refl _⟩
end Go.Gsl

namespace Go.Gsl
set_option linter.unusedVariables false
open Go.Proofs

theorem Sp.chk_first (x : Sp) (ok : Bool) : firstE [if x.key.length = 0 ∨ 64 < x.key.length then 30 else 0, if 256 < x.val.length then 31 else 0, if (decide (Stamp x.ts 1) && ok) = true then 0 else 32] = x.chk ok := by
  have e1 : ∀ l, firstE (0 :: l) = firstE l := fun l => by show (if (0 : Int) ≠ 0 then _ else _) = _; rw [if_neg (by decide)]
  unfold Sp.chk
  by_cases h1 : x.key.length = 0 ∨ 64 < x.key.length
  · rw [if_pos h1, if_pos h1]
    rfl
  · rw [if_neg h1, if_neg h1, e1]
    by_cases h2 : 256 < x.val.length
    · rw [if_pos h2, if_pos h2]
      rfl
    · rw [if_neg h2, if_neg h2, e1]
      by_cases h3 : Stamp x.ts 1 ∧ ok = true
      · rw [if_pos h3, if_pos (by simp [h3])]
        rfl
      · rw [if_neg h3, if_neg (by simpa using h3)]
        rfl
/-- the key ahead of a pair -/
def prevK (l : List Sp) (i : Nat) : Option (List Int) := if i = 0 then none else (l[i - 1]?).map Sp.key
/-- what is wrong from a pair on -/
def chksAt (l : List Sp) (i : Nat) : Int := chksL (prevK l i) (l.drop i)
theorem chksAt_zero (l : List Sp) : chksAt l 0 = chksL none l := rfl
theorem chksAt_end {l : List Sp} {i : Nat} (h : l.length ≤ i) : chksAt l i = 0 := by
  unfold chksAt
  rw [List.drop_eq_nil_of_le h]
  rfl
theorem chksAt_step {l : List Sp} {i : Nat} (h : i < l.length) : chksAt l i = if l[i].chk (okK (prevK l i) l[i].key) ≠ 0 then l[i].chk (okK (prevK l i) l[i].key) else chksAt l (i + 1) := by
  have h1 : prevK l (i + 1) = some l[i].key := by
    unfold prevK
    rw [if_neg (by omega), Nat.add_sub_cancel, List.getElem?_eq_getElem h]
    rfl
  unfold chksAt
  rw [h1, List.drop_eq_getElem_cons h]
  rfl
end Go.Gsl

namespace Go.Gsl
set_option linter.unusedVariables false
open Go.Proofs

/-- what is wrong with an area -/
def areaE (f c n : Int) : Int := if f < 0 ∨ c < 1 ∨ 4096 < c ∨ n < f ∨ n - f < c * 12 then 190 else 0
set_option maxHeartbeats 1000000 in
theorem ckCheck_ok (f c n : Int) (hf : I64 f) (hc : I64 c) (hn : I64 n) : Spec Try.prog 20 [.agg [.int .i64 f, .int .i64 c].toArray, .int .i64 n] [] [] fun F w Rs' => w = .int .i64 (areaE f c n) ∧ Rs' = F := by
  unfold I64 at hf hc hn
  refine spec_of Try.func20 rfl Try.ntmps20 rfl ?_
  intro w0 F
  repeat' (first | with_reducible (first | refine go1 ?_ | refine sct ?_ | refine scf ?_ | refine sgr ?_) | fail)
  refine sw_box fun b1 => ?_
  repeat' (first | with_reducible refine sw_in (by omega) ?_ | with_reducible (first | refine go1 ?_ | refine sct ?_ | refine scf ?_ | refine sgr ?_) | with_reducible refine sw_guard_skip_u ?_ | (with_reducible refine sc_cond (fun h => ?_) (fun h => ?_)) <;> (try (exfalso; first | contradiction | omega | exact h Iff.rfl)) | (with_reducible refine sw_guard_split (fun h => ?_) (fun h => ?_)) <;> (try (exfalso; first | contradiction | omega | exact h Iff.rfl)) | (with_reducible refine sw_pick (fun h => ?_) (fun h => ?_)) <;> (try (exfalso; first | contradiction | omega | exact h Iff.rfl)) | fail)
  all_goals first
    | (refine sq_ret1 Try.results20 ?_
       refine ⟨_, ⟨?_, rfl⟩, Ent.drop _ _⟩
       unfold areaE
       first | rw [if_pos (by omega)] | rw [if_neg (by omega)])
    | skip
set_option maxHeartbeats 1000000 in
theorem r19Check_ok (f c n : Int) (hf : I64 f) (hc : I64 c) (hn : I64 n) : Spec Try.prog 21 [.agg [.int .i64 f, .int .i64 c].toArray, .int .i64 n] [] [] fun F w Rs' => w = .int .i64 (areaE f c n) ∧ Rs' = F := by
  unfold I64 at hf hc hn
  refine spec_of Try.func21 rfl Try.ntmps21 rfl ?_
  intro w0 F
  repeat' (first | with_reducible (first | refine go1 ?_ | refine sct ?_ | refine scf ?_ | refine sgr ?_) | fail)
  refine sw_box fun b1 => ?_
  repeat' (first | with_reducible refine sw_in (by omega) ?_ | with_reducible (first | refine go1 ?_ | refine sct ?_ | refine scf ?_ | refine sgr ?_) | with_reducible refine sw_guard_skip_u ?_ | (with_reducible refine sc_cond (fun h => ?_) (fun h => ?_)) <;> (try (exfalso; first | contradiction | omega | exact h Iff.rfl)) | (with_reducible refine sw_guard_split (fun h => ?_) (fun h => ?_)) <;> (try (exfalso; first | contradiction | omega | exact h Iff.rfl)) | (with_reducible refine sw_pick (fun h => ?_) (fun h => ?_)) <;> (try (exfalso; first | contradiction | omega | exact h Iff.rfl)) | fail)
  all_goals first
    | (refine sq_ret1 Try.results21 ?_
       refine ⟨_, ⟨?_, rfl⟩, Ent.drop _ _⟩
       unfold areaE
       first | rw [if_pos (by omega)] | rw [if_neg (by omega)])
    | skip
end Go.Gsl

namespace Go.Gsl
set_option linter.unusedVariables false
open Go.Proofs

/-- a writer's cells -/
abbrev ckRow (d : Value) (f c : Int) (l : Value) (n : Int) (done : Bool) : List Value := [d, .int .i64 f, .int .i64 c, l, .int .i64 n, .bool done]
theorem ckNone_nil : Spec Try.prog 37 [.pointer none] [] [] fun F v Rs' => v = .bool true ∧ Rs' = F := by
  refine spec_of Try.func37 rfl Try.ntmps37 rfl ?_
  intro w0 F
  repeat' (first | with_reducible (first | refine go1 ?_ | refine sct ?_ | refine scf ?_ | refine sgr ?_) | fail)
  refine sq_ret1 Try.results37 ?_
  exact ⟨_, ⟨rfl, rfl⟩, Ent.refl _⟩
theorem ckNone_zero (p : Nat) (f c : Int) (l : Value) (n : Int) (done : Bool) : Spec Try.prog 37 [.pointer (some ⟨p, 0, none⟩)] [p] [pts p (.cells (ckRow (.pointer none) f c l n done).toArray 39 (0, 0))] fun F v Rs' => v = .bool true ∧ Rs' = (p, pts p (.cells (ckRow (.pointer none) f c l n done).toArray 39 (0, 0))) :: F := by
  refine spec_of Try.func37 rfl Try.ntmps37 rfl ?_
  intro w0 F
  repeat' (first | with_reducible (first | refine go1 ?_ | refine sct ?_ | refine scf ?_ | refine sgr ?_) | fail)
  refine sq_ret1 Try.results37 ?_
  exact ⟨_, ⟨rfl, rfl⟩, Ent.refl _⟩
theorem ckNone_ok (p q : Nat) (f c : Int) (l : Value) (n : Int) (done : Bool) : Spec Try.prog 37 [.pointer (some ⟨p, 0, none⟩)] [p] [pts p (.cells (ckRow (.pointer (some ⟨q, 0, none⟩)) f c l n done).toArray 39 (0, 0))] fun F v Rs' => v = .bool false ∧ Rs' = (p, pts p (.cells (ckRow (.pointer (some ⟨q, 0, none⟩)) f c l n done).toArray 39 (0, 0))) :: F := by
  refine spec_of Try.func37 rfl Try.ntmps37 rfl ?_
  intro w0 F
  repeat' (first | with_reducible (first | refine go1 ?_ | refine sct ?_ | refine scf ?_ | refine sgr ?_) | fail)
  refine sq_ret1 Try.results37 ?_
  exact ⟨_, ⟨rfl, rfl⟩, Ent.refl _⟩
theorem ckWritten_nil : Spec Try.prog 15 [.pointer none] [] [] fun F v Rs' => v = .int .i64 0 ∧ Rs' = F := by
  refine spec_of Try.func15 rfl Try.ntmps15 rfl ?_
  intro w0 F
  repeat' (first | with_reducible (first | refine go1 ?_ | refine sct ?_ | refine scf ?_ | refine sgr ?_) | ((with_reducible refine sw_call ckNone_nil ?_); rintro _ _ ⟨rfl, rfl⟩) | fail)
  refine sq_ret1 Try.results15 ?_
  exact ⟨_, ⟨rfl, rfl⟩, Ent.refl _⟩
theorem ckWritten_zero (p : Nat) (f c : Int) (l : Value) (n : Int) (done : Bool) : Spec Try.prog 15 [.pointer (some ⟨p, 0, none⟩)] [p] [pts p (.cells (ckRow (.pointer none) f c l n done).toArray 39 (0, 0))] fun F v Rs' => v = .int .i64 0 ∧ Rs' = (p, pts p (.cells (ckRow (.pointer none) f c l n done).toArray 39 (0, 0))) :: F := by
  refine spec_of Try.func15 rfl Try.ntmps15 rfl ?_
  intro w0 F
  repeat' (first | with_reducible (first | refine go1 ?_ | refine sct ?_ | refine scf ?_ | refine sgr ?_) | ((with_reducible refine sw_call (ckNone_zero p f c l n done) ?_); rintro _ _ ⟨rfl, rfl⟩) | fail)
  refine sq_ret1 Try.results15 ?_
  exact ⟨_, ⟨rfl, rfl⟩, Ent.refl _⟩
theorem ckWritten_ok (p q : Nat) (f c : Int) (l : Value) (n : Int) (done : Bool) : Spec Try.prog 15 [.pointer (some ⟨p, 0, none⟩)] [p] [pts p (.cells (ckRow (.pointer (some ⟨q, 0, none⟩)) f c l n done).toArray 39 (0, 0))] fun F v Rs' => v = .int .i64 n ∧ Rs' = (p, pts p (.cells (ckRow (.pointer (some ⟨q, 0, none⟩)) f c l n done).toArray 39 (0, 0))) :: F := by
  refine spec_of Try.func15 rfl Try.ntmps15 rfl ?_
  intro w0 F
  repeat' (first | with_reducible (first | refine go1 ?_ | refine sct ?_ | refine scf ?_ | refine sgr ?_) | ((with_reducible refine sw_call (ckNone_ok p q f c l n done) ?_); rintro _ _ ⟨rfl, rfl⟩) | fail)
  refine sq_ret1 Try.results15 ?_
  exact ⟨_, ⟨rfl, rfl⟩, Ent.refl _⟩
end Go.Gsl

namespace Go.Gsl
set_option linter.unusedVariables false
open Go.Proofs

set_option maxHeartbeats 1000000 in
theorem ckOn_ok (p : Nat) (s : Dk) (hw : s.Wf) (f c : Int) (hf : I64 f) (hc : I64 c) : Spec Try.prog 29 [.pointer (some ⟨p, 0, none⟩), .agg [.int .i64 f, .int .i64 c].toArray] [p] [DISK p s] fun F w Rs' => w = .int .i64 (areaE f c s.sure.length) ∧ Rs' = (p, DISK p s) :: F := by
  have h1 := hw.n1
  have h2 := hw.n2
  refine spec_of Try.func29 rfl Try.ntmps29 rfl ?_
  intro w0 F
  repeat' (first | with_reducible (first | refine go1 ?_ | refine sct ?_ | refine scf ?_ | refine sgr ?_) | fail)
  refine sw_box fun b1 => ?_
  repeat' (first | with_reducible (first | refine go1 ?_ | refine sct ?_ | refine scf ?_ | refine sgr ?_) | ((with_reducible refine sw_call (dSectors_ok p s) ?_); rintro _ _ ⟨rfl, rfl⟩) | (with_reducible refine sc_cond (fun h => ?_) (fun h => ?_)) <;> (try (exfalso; first | contradiction | omega | exact h Iff.rfl)) | fail)
  refine sc_lin ([(b1, pts b1 (.cells [.int .i64 f, .int .i64 c].toArray 23 (0, 0)))]) (llp 0 (llp 1 (lle 2 (lle 3 (llp 4 ll0))))) (by kernel_rfl) rfl (by kernel_rfl) ?_
  all_goals (iterate 2 refine go1l ?_)
  all_goals refine sl_eff ?_
  all_goals (repeat' (first | with_reducible (first | refine go1 ?_ | refine sct ?_ | refine scf ?_ | refine sgr ?_) | ((with_reducible refine sw_callf (dSectors_ok p s) ?_); rintro _ _ ⟨rfl, rfl⟩) | ((with_reducible refine sw_callf (ckCheck_ok f c s.sure.length hf hc (by unfold I64; omega)) ?_); rintro _ _ ⟨rfl, rfl⟩) | with_reducible refine sl_back ?_ | fail))
  all_goals refine sl_eff ?_
  all_goals (repeat' (first | with_reducible (first | refine go1 ?_ | refine sct ?_ | refine scf ?_ | refine sgr ?_) | ((with_reducible refine sw_callf (dSectors_ok p s) ?_); rintro _ _ ⟨rfl, rfl⟩) | ((with_reducible refine sw_callf (ckCheck_ok f c s.sure.length hf hc (by unfold I64; omega)) ?_); rintro _ _ ⟨rfl, rfl⟩) | with_reducible refine sl_back ?_ | fail))
  all_goals refine go1l ?_
  all_goals refine sl_done ?_
  repeat' (first | with_reducible (first | refine go1 ?_ | refine sct ?_ | refine scf ?_ | refine sgr ?_) | fail)
  refine sq_ret1 Try.results29 ?_
  exact ⟨_, ⟨rfl, rfl⟩, Ent.cons _ (Ent.drop _ _)⟩
end Go.Gsl

namespace Go.Gsl
set_option linter.unusedVariables false
open Go.Proofs

set_option maxHeartbeats 1000000 in
theorem ckNew_ok (p : Nat) (s : Dk) (hw : s.Wf) (f c : Int) (hf : I64 f) (hc : I64 c) : Spec Try.prog 11 [.pointer (some ⟨p, 0, none⟩), .agg [.int .i64 f, .int .i64 c].toArray] [p] [DISK p s]
    fun F w Rs' => (areaE f c s.sure.length ≠ 0 ∧ w = .tuple #[.pointer none, .int .i64 (areaE f c s.sure.length)] ∧ Rs' = (p, DISK p s) :: F) ∨
      (areaE f c s.sure.length = 0 ∧ ∃ q, w = .tuple #[.pointer (some ⟨q, 0, none⟩), .int .i64 0] ∧ Rs' = (q, pts q (.cells (ckRow (.pointer (some ⟨p, 0, none⟩)) f c (.slice none 0 0) 0 false).toArray 39 (0, 0))) :: (p, DISK p s) :: F) := by
  refine spec_of Try.func11 rfl Try.ntmps11 rfl ?_
  intro w0 F
  repeat' (first | with_reducible (first | refine go1 ?_ | refine sct ?_ | refine scf ?_ | refine sgr ?_) | fail)
  refine sw_box fun b1 => ?_
  repeat' (first | with_reducible (first | refine go1 ?_ | refine sct ?_ | refine scf ?_ | refine sgr ?_) | ((with_reducible refine sw_call (ckOn_ok p s hw f c hf hc) ?_); rintro _ _ ⟨rfl, rfl⟩) | (with_reducible refine sc_cond (fun h => ?_) (fun h => ?_)) <;> (try (exfalso; first | contradiction | omega | exact h Iff.rfl)) | fail)
  · refine sq_ret2 Try.results11 ?_
    exact ⟨_, .inl ⟨h, rfl, rfl⟩, Ent.cons _ (Ent.drop _ _)⟩
  · refine sw_build (ckRow (.pointer (some ⟨p, 0, none⟩)) f c (.slice none 0 0) 0 false) (by kernel_rfl) ?_
    refine sw_box fun q => ?_
    repeat' (first | with_reducible (first | refine go1 ?_ | refine sct ?_ | refine scf ?_ | refine sgr ?_) | fail)
    refine sq_ret2 Try.results11 ?_
    exact ⟨_, .inr ⟨by omega, q, rfl, rfl⟩, Ent.cons _ (Ent.cons _ (Ent.drop _ _))⟩
end Go.Gsl
