/- Checkpoints: clones of pairs; a chunk is written. -/
import Derived.Test.YtlofcljlmfnhbaaGS
import Derived.Test.YtlofcljlmfnhbaaGP
import Derived.Test.YtlofcljlmfnhbaaGD
import Derived.Test.YtlofcljlmfnhbaaGE
import Derived.Test.YtlofcljlmfnhbaaGM
import Derived.Test.YtlofcljlmfnhbaaGK
namespace Go.Gsl
set_option linter.unusedVariables false
open Go.Proofs

theorem clS_ok (k : Nat) (r : HProp) (v : Value) (l : List Sp) (hv : RdS r v l) (hl : l.length ≤ 3518437208883) : Spec Try.prog 18 [v] [k] [r]
    fun F w Rs' => ∃ q, NOk 3 (spC l) l.length q ∧ w = nV l.length q ∧ Rs' = oR (SpG l) ((k, r) :: F) q := by
  obtain ⟨a, c, rfl, hc, hsome, hr⟩ := hv
  refine spec_of Try.func18 rfl Try.ntmps18 rfl ?_
  intro w0 F
  repeat' (first | with_reducible (first | refine go1 ?_ | refine sct ?_ | refine scf ?_ | refine sgr ?_) | (with_reducible refine sc_cond (fun h => ?_) (fun h => ?_)) <;> (try (exfalso; first | contradiction | omega | exact h Iff.rfl)) | fail)
  · have ha : a = none := by simpa using h
    have h0 : l = [] := by
      cases l with
      | nil => rfl
      | cons x l => obtain ⟨b, o, h1⟩ := hsome (by simp); rw [ha] at h1; cases h1
    subst h0
    refine sq_ret1 Try.results18 ?_
    exact ⟨_, ⟨none, ⟨rfl, fun _ => ⟨rfl, rfl⟩, fun b c t h => (by cases h)⟩, rfl, rfl⟩, Ent.refl _⟩
  · refine sw_buildSlice0 fun b0 => ?_
    repeat' (first | with_reducible (first | refine go1 ?_ | refine sct ?_ | refine scf ?_ | refine sgr ?_) | fail)
    refine sw_appendN (sz := 3) (nb := 40) (src := spC l) (fun w hw => hr.sat (k := k) hw) spC_one rfl (by omega) ⟨by omega, rfl, spC_len l, by omega, by omega⟩ fun b t c2 h1 h2 => ?_
    simp only [Nat.zero_mul, Nat.zero_add, List.take_zero, List.nil_append] at h1 h2 ⊢
    repeat' (first | with_reducible (first | refine go1 ?_ | refine sct ?_ | refine scf ?_ | refine sgr ?_) | fail)
    refine sq_ret1 Try.results18 ?_
    exact ⟨_, ⟨some (b, c2, t), ⟨spC_len l, fun h => (by cases h), fun b c t h => (by cases h; exact ⟨h1, h2⟩)⟩, rfl, rfl⟩, Ent.refl _⟩

/-- sectors written, one behind the other -/
def WrT : List (List Int) → Int → Dk → Dk → Int → Prop
  | [], _, s, s', e => s' = s ∧ e = 0
  | x :: xs, a, s, s', e => (s.looks a ≠ 0 ∧ s' = s ∧ e = s.looks a) ∨ (s.looks a = 0 ∧ s.fuse ≠ 1 ∧ WrT xs (a + 1) (s.wrote a x) s' e) ∨
    (s.looks a = 0 ∧ s.fuse = 1 ∧ e = 6 ∧ ∃ ks, KeysD (s.wrote a x).dirty ks ∧ s' = (s.wrote a x).gone ks s.keep)
/-- what Write does -/
def CkW (s : Dk) (f n : Int) (c : Ck) (s' : Dk) (e : Int) : Prop :=
  (areaE f n s.sure.length ≠ 0 ∧ e = areaE f n s.sure.length ∧ s' = s) ∨ (areaE f n s.sure.length = 0 ∧ c.chk ≠ 0 ∧ e = c.chk ∧ s' = s) ∨
  (areaE f n s.sure.length = 0 ∧ c.chk = 0 ∧ n ≤ c.num ∧ e = 190 ∧ s' = s) ∨ (areaE f n s.sure.length = 0 ∧ c.chk = 0 ∧ c.num < n ∧ WrT c.secs (f + c.num * 12) s s' e)


theorem RdB.cutN {r : HProp} {b o c : Nat} {bs : List Int} (hc : bs.length ≤ c) (hr : Reads r (some ⟨b, o, none⟩) (bs.map (Value.int .u8))) (N : Nat) (h : N ≤ bs.length) : Reads r (some ⟨b, o, none⟩) ((bs.take N).map (Value.int .u8)) := by
  intro hp w h1 hf j v hj
  rw [List.map_take, List.getElem?_take] at hj
  split at hj
  · exact hr hp w h1 hf j v hj
  · cases hj

set_option maxHeartbeats 4000000 in
theorem ckWrite_ok (p k : Nat) (s : Dk) (r : HProp) (f n : Int) (v : Value) (c : Ck) (hf : I64 f) (hn : I64 n) (hv : RdS r v c.l) (hi : c.In) (hl : c.l.length ≤ 4611686018427387904) :
    Spec Try.prog 12 [.pointer (some ⟨p, 0, none⟩), .agg [.int .i64 f, .int .i64 n].toArray, .agg (ckV c.num v c.last).toArray] [p, k] [DISK p s, r]
    fun F w Rs' => ∃ s' e, CkW s f n c s' e ∧ w = .int .i64 e ∧ Rs' = (p, DISK p s') :: (k, r) :: F := by
  have hone := hv.one
  refine spec_of Try.func12 rfl Try.ntmps12 rfl ?_
  intro w0 F
  refine DISK.scwf (p := p) (s := s) fun hwf => ?_
  have h1 := hwf.n1
  have h2 := hwf.n2
  repeat' (first | with_reducible (first | refine go1 ?_ | refine sct ?_ | refine scf ?_ | refine sgr ?_) | fail)
  refine sw_box fun b4 => ?_
  repeat' (first | with_reducible (first | refine go1 ?_ | refine sct ?_ | refine scf ?_ | refine sgr ?_) | fail)
  refine sw_box fun b5 => ?_
  repeat' (first | with_reducible (first | refine go1 ?_ | refine sct ?_ | refine scf ?_ | refine sgr ?_) | ((with_reducible refine sw_call (ckOn_ok p s hwf f n hf hn) ?_); rintro _ _ ⟨rfl, rfl⟩) | (with_reducible refine sc_cond (fun h => ?_) (fun h => ?_)) <;> (try (exfalso; first | contradiction | omega | exact h Iff.rfl)) | fail)
  · refine sq_ret1 Try.results12 ?_
    refine ⟨_, ⟨s, _, .inl ⟨h, rfl, rfl⟩, rfl, rfl⟩, ?_⟩
    repeat' (first | with_reducible exact Ent.refl _ | with_reducible refine Ent.take_eq ?_ ?_ | rfl | with_reducible refine Ent.oR ?_ | with_reducible refine Ent.trans (oR.drop _ _ _) ?_ | with_reducible refine Ent.trans (Ent.drop _ _) ?_)
  have ha : areaE f n s.sure.length = 0 := by omega
  have ha2 : 0 ≤ f ∧ 1 ≤ n ∧ n ≤ 4096 ∧ n * 12 ≤ s.sure.length - f := by unfold areaE at ha; split at ha <;> omega
  refine sw_call (rcChunk_ok k r v c hv hi hl) ?_
  rintro _ _ (⟨hk, rfl, rfl⟩ | ⟨hk, b6, t6, rfl, rfl⟩)
  · repeat' (first | with_reducible (first | refine go1 ?_ | refine sct ?_ | refine scf ?_ | refine sgr ?_) | (with_reducible refine sc_cond (fun h => ?_) (fun h => ?_)) <;> (try (exfalso; first | contradiction | omega | exact h Iff.rfl)) | fail)
    refine sq_ret1 Try.results12 ?_
    refine ⟨_, ⟨s, _, .inr (.inl ⟨ha, hk, rfl, rfl⟩), rfl, rfl⟩, ?_⟩
    repeat' (first | with_reducible exact Ent.refl _ | with_reducible refine Ent.take_eq ?_ ?_ | rfl | with_reducible refine Ent.oR ?_ | with_reducible refine Ent.trans (oR.drop _ _ _) ?_ | with_reducible refine Ent.trans (Ent.drop _ _) ?_)
  have hkn := Ck.chk_ok hk
  have hkl := Ck.b_len hk
  repeat' (first | with_reducible (first | refine go1 ?_ | refine sct ?_ | refine scf ?_ | refine sgr ?_) | (with_reducible refine sc_cond (fun h => ?_) (fun h => ?_)) <;> (try (exfalso; first | contradiction | omega | exact h Iff.rfl)) | fail)
  · refine sq_ret1 Try.results12 ?_
    refine ⟨_, ⟨s, _, .inr (.inr (.inl ⟨ha, hk, h, rfl, rfl⟩)), rfl, rfl⟩, ?_⟩
    repeat' (first | with_reducible exact Ent.refl _ | with_reducible refine Ent.take_eq ?_ ?_ | rfl | with_reducible refine Ent.oR ?_ | with_reducible refine Ent.trans (oR.drop _ _ _) ?_ | with_reducible refine Ent.trans (Ent.drop _ _) ?_)
  have hlt : c.num < n := by omega
  refine sw_call (cFrame_ok b6 _ _ c.b RdB.own (Ck.b_byt hi.2) (by omega)) ?_
  rintro _ _ (⟨hbad, rfl, rfl⟩ | ⟨_, b7, t7, rfl, rfl⟩)
  · omega
  have hfl := frame_len c.b
  have hfw := width_in (c.b.length : Int)
  have hfb := frame_byt (Ck.b_byt hi.2)
  have hsec := Ck.secs_len hk
  have hfr : CkW s f n c = fun s' e => CkW s f n c s' e := rfl
  have hW : ∀ s' e, WrT (secsOf (frame c.b)) (f + c.num * 12) s s' e → CkW s f n c s' e := fun s' e h => .inr (.inr (.inr ⟨ha, hk, hlt, h⟩))
  clear hfr
  repeat' (first | with_reducible refine sw_in (by omega) ?_ | with_reducible (first | refine go1 ?_ | refine sct ?_ | refine scf ?_ | refine sgr ?_) | (with_reducible refine sc_cond (fun h => ?_) (fun h => ?_)) <;> (try (exfalso; first | contradiction | omega | exact h Iff.rfl)) | fail)
  generalize hfc : frame c.b = fr at *
  have hat0 : 0 ≤ f + c.num * 12 ∧ f + c.num * 12 ≤ 16384 := by omega
  generalize f + c.num * 12 = a0 at *
  refine sc_loop (α := { x : Value × List Int × Dk × Int // RdB (pts b7 (.cells (fr.map (Value.int .u8) ++ t7).toArray 5 (0, 0))) x.1 x.2.1 ∧ Byt x.2.1 ∧ (a0 ≤ x.2.2.2 ∧ x.2.2.2 + x.2.1.length ≤ a0 + fr.length) ∧ ∀ s' e, WrT (secsOf x.2.1) x.2.2.2 x.2.2.1 s' e → WrT (secsOf fr) a0 s s' e })
    (fun x => [(0, .pointer (some ⟨p, 0, none⟩)), (10, x.1.1), (11, .int .i64 x.1.2.2.2)]) (fun x => (b7, pts b7 (.cells (fr.map (Value.int .u8) ++ t7).toArray 5 (0, 0))) :: (p, DISK p x.1.2.2.1) :: (k, r) :: F) (fun x => x.1.2.1.length)
    ⟨(_, fr, s, a0), RdB.own, hfb, ⟨by simp only; omega, by simp only; omega⟩, fun s' e h => h⟩ ?_ ?_ ?_
  · repeat' (first | exact says_nil | refine says_cons rfl ?_ | refine says_cons (by simp) ?_)
  · repeat' (first | with_reducible exact Ent.refl _ | with_reducible refine Ent.take_eq ?_ ?_ | rfl | with_reducible refine Ent.oR ?_ | with_reducible refine Ent.trans (oR.drop _ _ _) ?_ | with_reducible refine Ent.trans (Ent.drop _ _) ?_)
  rintro ⟨⟨v1, rest, s1, at'⟩, hx⟩ e
  obtain ⟨hrd, hrb, hat, hK⟩ := hx
  (try simp only at hrd hrb hat hK)
  simp only [List.cons_append, List.nil_append]
  obtain ⟨ad, cp, rfl, hsome, hcp, hrr⟩ := hrd.gen
  repeat' (first | with_reducible refine sw_in (by omega) ?_ | with_reducible (first | refine go1 ?_ | refine sct ?_ | refine scf ?_ | refine sgr ?_) | (with_reducible refine sc_cond (fun h => ?_) (fun h => ?_)) <;> (try (exfalso; first | contradiction | omega | exact h Iff.rfl)) | fail)
  · obtain ⟨bb, oo, rfl⟩ := hsome (by omega)
    obtain ⟨N, hN⟩ : ∃ N : Nat, (if (512 : Int) < (rest.length : Int) then (512 : Int) else (rest.length : Int)) = N := ⟨min rest.length 512, by split <;> omega⟩
    have hNle : N ≤ rest.length ∧ N ≤ 512 ∧ 1 ≤ N := by split at hN <;> omega
    have hNm : N = min rest.length 512 := by split at hN <;> omega
    rw [hN]
    repeat' (first | with_reducible (first | refine go1 ?_ | refine sct ?_ | refine scf ?_ | refine sgr ?_) | fail)
    refine sw_slice 0 N cp oo (by omega) ⟨rfl, by omega, rfl, by rw [if_neg (by omega), Nat.add_zero]⟩ ?_
    have hsrc := RdB.cutN hcp hrr N hNle.1
    refine sw_call (clB_ok b7 _ (some ⟨bb, oo, none⟩) (N - 0) (cp - 0) ((rest.take N).map (Value.int .u8)) hsrc (one_ints _ _) (by rw [List.length_map, List.length_take]; omega) (by omega)) ?_
    rintro _ _ (⟨hbad, _, _⟩ | ⟨_, b8, t8, rfl, rfl⟩)
    · cases hbad
    repeat' (first | with_reducible refine sw_in (by omega) ?_ | with_reducible (first | refine go1 ?_ | refine sct ?_ | refine scf ?_ | refine sgr ?_) | fail)
    have hml : ((rest.take N).map (Value.int .u8)).length = N := by rw [List.length_map, List.length_take]; omega
    refine sw_append_make0 (512 - N) ⟨by omega, by omega, by rw [List.length_append, hml]; omega, by omega, by omega⟩ fun b9 t9 => ?_
    rw [Nat.sub_zero, List.take_left' hml, show N + (512 - N) = 512 by omega]
    have htl : (rest.take N).length = N := by rw [List.length_take]; omega
    have hsx : (rest.take N).map (Value.int .u8) ++ List.replicate (512 - N) (Value.int .u8 0) = (rest.take N ++ List.replicate (512 - N) 0).map (Value.int .u8) := by rw [List.map_append, List.map_replicate]
    have hwf9 : SecWf (rest.take N ++ List.replicate (512 - N) 0) := ⟨by rw [List.length_append, List.length_replicate, htl]; omega, fun x hx => by
      rcases List.mem_append.1 hx with h | h
      · exact hrb x (List.mem_of_mem_take h)
      · rw [List.eq_of_mem_replicate h]; omega⟩
    have hsecs : secsOf rest = (rest.take N ++ List.replicate (512 - N) 0) :: secsOf (rest.drop N) := by
      rw [secsOf, if_neg (by omega)]
      rcases Nat.lt_or_ge rest.length 512 with h9 | h9
      · rw [show N = rest.length by omega, List.take_of_length_le (show rest.length ≤ 512 by omega), List.take_length, List.drop_eq_nil_of_le (show rest.length ≤ 512 by omega), List.drop_length]
      · rw [show N = 512 by omega, List.length_take, show min 512 rest.length = 512 by omega]
    rw [hsx]
    rw [hsecs] at hK
    generalize rest.take N ++ List.replicate (512 - N) 0 = sx at *
    repeat' (first | with_reducible (first | refine go1 ?_ | refine sct ?_ | refine scf ?_ | refine sgr ?_) | fail)
    refine sw_call (dWrite_any p b9 s1 _ (some ⟨b9, 0, none⟩) _ at' sx hwf9 (by simp) reads_row) ?_
    rintro _ _ (⟨hlk, rfl, rfl⟩ | ⟨hlk, hfu, rfl, rfl⟩ | ⟨hlk, hfu, rfl, ks, hks, rfl⟩)
    · repeat' (first | with_reducible (first | refine go1 ?_ | refine sct ?_ | refine scf ?_ | refine sgr ?_) | (with_reducible refine sc_cond (fun h => ?_) (fun h => ?_)) <;> (try (exfalso; first | contradiction | omega | exact h Iff.rfl)) | fail)
      refine sq_ret1 Try.results12 ?_
      refine ⟨_, ⟨s1, _, hW _ _ (hK _ _ (.inl ⟨hlk, rfl, rfl⟩)), rfl, rfl⟩, ?_⟩
      repeat' (first | with_reducible exact Ent.refl _ | with_reducible refine Ent.take_eq ?_ ?_ | rfl | with_reducible refine Ent.oR ?_ | with_reducible refine Ent.trans (oR.drop _ _ _) ?_ | with_reducible refine Ent.trans (Ent.drop _ _) ?_)
    · repeat' (first | with_reducible (first | refine go1 ?_ | refine sct ?_ | refine scf ?_ | refine sgr ?_) | (with_reducible refine sc_cond (fun h => ?_) (fun h => ?_)) <;> (try (exfalso; first | contradiction | omega | exact h Iff.rfl)) | fail)
      have hdr := RdB.tail hcp hrr N hNle.1
      refine sw_slice N rest.length cp (if cp = N then oo else oo + N) (by omega) ⟨rfl, rfl, rfl, rfl⟩ ?_
      repeat' (first | with_reducible refine sw_in (by omega) ?_ | with_reducible (first | refine go1 ?_ | refine sct ?_ | refine scf ?_ | refine sgr ?_) | fail)
      refine sq_round ⟨(_, rest.drop N, s1.wrote at' sx, at' + 1), hdr, fun x hx => hrb x (List.mem_of_mem_drop hx), ⟨by simp only; omega, by simp only [List.length_drop]; omega⟩, fun s' e h => hK s' e (.inr (.inl ⟨hlk, hfu, h⟩))⟩ ?_ ?_ ?_
      · show (rest.drop N).length < rest.length
        rw [List.length_drop]
        omega
      · repeat' (first | exact says_nil | refine says_cons rfl ?_ | refine says_cons (by simp) ?_)
      · repeat' (first | with_reducible exact Ent.refl _ | with_reducible refine Ent.take_eq ?_ ?_ | rfl | with_reducible refine Ent.oR ?_ | with_reducible refine Ent.trans (oR.drop _ _ _) ?_ | with_reducible refine Ent.trans (Ent.drop _ _) ?_)
    · repeat' (first | with_reducible (first | refine go1 ?_ | refine sct ?_ | refine scf ?_ | refine sgr ?_) | (with_reducible refine sc_cond (fun h => ?_) (fun h => ?_)) <;> (try (exfalso; first | contradiction | omega | exact h Iff.rfl)) | fail)
      refine sq_ret1 Try.results12 ?_
      refine ⟨_, ⟨_, 6, hW _ _ (hK _ _ (.inr (.inr ⟨hlk, hfu, rfl, ks, hks, rfl⟩))), rfl, rfl⟩, ?_⟩
      repeat' (first | with_reducible exact Ent.refl _ | with_reducible refine Ent.take_eq ?_ ?_ | rfl | with_reducible refine Ent.oR ?_ | with_reducible refine Ent.trans (oR.drop _ _ _) ?_ | with_reducible refine Ent.trans (Ent.drop _ _) ?_)
  · have hr0 : rest = [] := List.length_eq_zero_iff.1 (by omega)
    subst hr0
    have hnil : secsOf ([] : List Int) = [] := by unfold secsOf; simp
    repeat' (first | with_reducible (first | refine go1 ?_ | refine sct ?_ | refine scf ?_ | refine sgr ?_) | fail)
    refine sq_ret1 Try.results12 ?_
    refine ⟨_, ⟨s1, 0, hW _ _ (hK _ _ (by rw [hnil]; exact ⟨rfl, rfl⟩)), rfl, rfl⟩, ?_⟩
    repeat' (first | with_reducible exact Ent.refl _ | with_reducible refine Ent.take_eq ?_ ?_ | rfl | with_reducible refine Ent.oR ?_ | with_reducible refine Ent.trans (oR.drop _ _ _) ?_ | with_reducible refine Ent.trans (Ent.drop _ _) ?_)
end Go.Gsl

namespace Go.Gsl
set_option linter.unusedVariables false
open Go.Proofs

/-- so many sectors from one on, one behind the other -/
def catS (s : Dk) (a : Int) : Nat → List Int
  | 0 => []
  | j + 1 => catS s a j ++ s.now (a + j)
theorem catS_byt {s : Dk} (hw : s.Wf) {a : Int} (h0 : 0 ≤ a) : ∀ j : Nat, a + j ≤ s.sure.length → Byt (catS s a j) ∧ (catS s a j).length = 512 * j
  | 0, _ => ⟨fun x hx => (by cases hx), rfl⟩
  | j + 1, h => by
    have h1 := catS_byt hw h0 j (by omega)
    have h2 := Dk.now_wf hw (a := a + j) (by omega) (by omega)
    unfold catS
    refine ⟨h1.1.app h2.byte, ?_⟩
    rw [List.length_append, h1.2, h2.len]
    omega
/-- what Read makes of a disk -/
def readA (s : Dk) (f n i : Int) : Ck × Int :=
  if areaE f n s.sure.length ≠ 0 then (Ck.zero, areaE f n s.sure.length) else if i < 0 ∨ n ≤ i then (Ck.zero, 1) else if s.down then (Ck.zero, 6) else readCk i (catS s (f + i * 12) 12)

theorem dRead_any (p : Nat) (s : Dk) (hwf : s.Wf) (a : Int) : Spec Try.prog 30 [.pointer (some ⟨p, 0, none⟩), .int .i64 a] [p] [DISK p s] fun F w Rs' => (s.looks a ≠ 0 ∧ w = .tuple #[.slice none 0 0, .int .i64 (s.looks a)] ∧ Rs' = (p, DISK p s) :: F) ∨
    (s.looks a = 0 ∧ Byt (s.now a) ∧ (s.now a).length = 512 ∧ ∃ b, w = .tuple #[.slice (some ⟨b, 0, none⟩) (s.now a).length (s.now a).length, .int .i64 0] ∧ Rs' = (b, pts b (.cells ((s.now a).map (Value.int .u8)).toArray 5 (0, 0))) :: (p, DISK p s) :: F) := rd_disk_wf p s hwf a
theorem Dk.looks_in {s : Dk} {a : Int} (h0 : 0 ≤ a) (h1 : a < s.sure.length) : s.looks a = if s.down then 6 else 0 := by
  unfold Dk.looks
  split
  · rfl
  · rw [if_neg (by omega)]

set_option maxHeartbeats 4000000 in
theorem ckRead_ok (p : Nat) (s : Dk) (f n i : Int) (hf : I64 f) (hn : I64 n) (hi : I64 i) :
    Spec Try.prog 9 [.pointer (some ⟨p, 0, none⟩), .agg [.int .i64 f, .int .i64 n].toArray, .int .i64 i] [p] [DISK p s]
    fun F w Rs' => ∃ q, NOk 3 (spC (readA s f n i).1.l) (readA s f n i).1.l.length q ∧ w = .tuple #[.agg (ckV (readA s f n i).1.num (nV (readA s f n i).1.l.length q) (readA s f n i).1.last).toArray, .int .i64 (readA s f n i).2] ∧ Rs' = oR (SpG (readA s f n i).1.l) ((p, DISK p s) :: F) q := by
  refine spec_of Try.func9 rfl Try.ntmps9 rfl ?_
  intro w0 F
  refine DISK.scwf (p := p) (s := s) fun hwf => ?_
  have h1 := hwf.n1
  have h2 := hwf.n2
  have hz : NOk 3 (spC []) 0 none := ⟨rfl, fun _ => ⟨rfl, rfl⟩, fun b c t h => (by cases h)⟩
  have hf9 := hf
  have hn9 := hn
  have hi9 := hi
  unfold I64 at hf9 hn9 hi9
  unfold readA
  repeat' (first | with_reducible (first | refine go1 ?_ | refine sct ?_ | refine scf ?_ | refine sgr ?_) | fail)
  refine sw_box fun b4 => ?_
  refine sw_alloc fun b6 => ?_
  repeat' (first | with_reducible (first | refine go1 ?_ | refine sct ?_ | refine scf ?_ | refine sgr ?_) | ((with_reducible refine sw_call (ckOn_ok p s hwf f n hf hn) ?_); rintro _ _ ⟨rfl, rfl⟩) | (with_reducible refine sc_cond (fun h => ?_) (fun h => ?_)) <;> (try (exfalso; first | contradiction | omega | exact h Iff.rfl)) | fail)
  · rw [if_pos h]
    refine sw_build (ckV 0 (.slice none 0 0) false) (by kernel_rfl) ?_
    repeat' (first | with_reducible (first | refine go1 ?_ | refine sct ?_ | refine scf ?_ | refine sgr ?_) | fail)
    refine sw_store_agg ?_
    repeat' (first | with_reducible (first | refine go1 ?_ | refine sct ?_ | refine scf ?_ | refine sgr ?_) | fail)
    refine sq_resAT Try.results9 (by first | exact .inl rfl | exact .inr rfl) rfl ?_
    refine ⟨_, ⟨none, hz, rfl, rfl⟩, ?_⟩
    show Ent _ ((p, DISK p s) :: F)
    repeat' (first | with_reducible exact Ent.refl _ | with_reducible refine Ent.take_eq ?_ ?_ | rfl | with_reducible refine Ent.oR ?_ | with_reducible refine Ent.trans (oR.drop _ _ _) ?_ | with_reducible refine Ent.trans (Ent.drop _ _) ?_)
  have ha : areaE f n s.sure.length = 0 := by omega
  have ha2 : 0 ≤ f ∧ 1 ≤ n ∧ n ≤ 4096 ∧ n * 12 ≤ s.sure.length - f := by unfold areaE at ha; split at ha <;> omega
  rw [if_neg (by omega)]
  repeat' (first | with_reducible (first | refine go1 ?_ | refine sct ?_ | refine scf ?_ | refine sgr ?_) | with_reducible refine sw_guard_skip_u ?_ | (with_reducible refine sc_cond (fun h => ?_) (fun h => ?_)) <;> (try (exfalso; first | contradiction | omega | exact h Iff.rfl)) | (with_reducible refine sw_guard_split (fun h => ?_) (fun h => ?_)) <;> (try (exfalso; first | contradiction | omega | exact h Iff.rfl)) | (with_reducible refine sw_pick (fun h => ?_) (fun h => ?_)) <;> (try (exfalso; first | contradiction | omega | exact h Iff.rfl)) | fail)
  iterate 2
    · rw [if_pos (by omega)]
      refine sw_build (ckV 0 (.slice none 0 0) false) (by kernel_rfl) ?_
      repeat' (first | with_reducible (first | refine go1 ?_ | refine sct ?_ | refine scf ?_ | refine sgr ?_) | fail)
      refine sw_store_agg ?_
      repeat' (first | with_reducible (first | refine go1 ?_ | refine sct ?_ | refine scf ?_ | refine sgr ?_) | fail)
      refine sq_resAT Try.results9 (by first | exact .inl rfl | exact .inr rfl) rfl ?_
      refine ⟨_, ⟨none, hz, rfl, rfl⟩, ?_⟩
      show Ent _ ((p, DISK p s) :: F)
      repeat' (first | with_reducible exact Ent.refl _ | with_reducible refine Ent.take_eq ?_ ?_ | rfl | with_reducible refine Ent.oR ?_ | with_reducible refine Ent.trans (oR.drop _ _ _) ?_ | with_reducible refine Ent.trans (Ent.drop _ _) ?_)
  rw [if_neg (by omega)]
  have hir : 0 ≤ i ∧ i < n := by omega
  refine sc_loop (α := { x : Nat × Option (Nat × List Value) // x.1 ≤ 12 ∧ (x.2 = none ↔ x.1 = 0) ∧ (0 < x.1 → s.down = false) })
    (fun x => [(0, .pointer (some ⟨p, 0, none⟩)), (2, .int .i64 i), (4, .pointer (some ⟨b4, 0, none⟩)), (6, .pointer (some ⟨b6, 0, none⟩)), (9, bufV (catS s (f + i * 12) x.1.1).length x.1.2), (33, .int .i64 (x.1.1 : Int))])
    (fun x => oR (vG .u8 5 (catS s (f + i * 12) x.1.1)) ((b6, pts b6 (.cells (ckV 0 (.slice none 0 0) false).toArray 28 (0, 0))) :: (b4, pts b4 (.cells [.int .i64 f, .int .i64 n].toArray 23 (0, 0))) :: (p, DISK p s) :: F) x.1.2) (fun x => 12 - x.1.1) ⟨(0, none), Nat.zero_le _, ⟨fun _ => rfl, fun _ => rfl⟩, fun h => by omega⟩ ?_ ?_ ?_
  · repeat' (first | exact says_nil | refine says_cons rfl ?_ | refine says_cons (by simp) ?_)
  · show Ent _ ((b6, pts b6 (.cells (ckV 0 (.slice none 0 0) false).toArray 28 (0, 0))) :: (b4, pts b4 (.cells [.int .i64 f, .int .i64 n].toArray 23 (0, 0))) :: (p, DISK p s) :: F)
    repeat' (first | with_reducible exact Ent.refl _ | with_reducible refine Ent.take_eq ?_ ?_ | rfl | with_reducible refine Ent.oR ?_ | with_reducible refine Ent.trans (oR.drop _ _ _) ?_ | with_reducible refine Ent.trans (Ent.drop _ _) ?_)
  rintro ⟨⟨j, o⟩, hj, ho, hd⟩ e
  (try simp only at hj ho hd)
  simp only [List.cons_append, List.nil_append]
  repeat' (first | with_reducible refine sw_in (by omega) ?_ | with_reducible (first | refine go1 ?_ | refine sct ?_ | refine scf ?_ | refine sgr ?_) | (with_reducible refine sc_cond (fun h => ?_) (fun h => ?_)) <;> (try (exfalso; first | contradiction | omega | exact h Iff.rfl)) | fail)
  · have hlk : s.looks (f + i * 12 + j) = if s.down then 6 else 0 := Dk.looks_in (by omega) (by omega)
    refine sw_call (dRead_any p s hwf (f + i * 12 + j)) ?_
    rintro _ _ (⟨hl, rfl, rfl⟩ | ⟨hl, hby, h5, b, rfl, rfl⟩)
    · have hdn : s.down = true := by
        cases hd' : s.down with
        | true => rfl
        | false => rw [hd'] at hlk; exact absurd hlk hl
      rw [hdn, if_pos rfl] at hlk
      rw [hlk, if_pos hdn]
      repeat' (first | with_reducible (first | refine go1 ?_ | refine sct ?_ | refine scf ?_ | refine sgr ?_) | (with_reducible refine sc_cond (fun h => ?_) (fun h => ?_)) <;> (try (exfalso; first | contradiction | omega | exact h Iff.rfl)) | fail)
      refine sw_build (ckV 0 (.slice none 0 0) false) (by kernel_rfl) ?_
      repeat' (first | with_reducible (first | refine go1 ?_ | refine sct ?_ | refine scf ?_ | refine sgr ?_) | fail)
      refine sw_store_agg ?_
      repeat' (first | with_reducible (first | refine go1 ?_ | refine sct ?_ | refine scf ?_ | refine sgr ?_) | fail)
      refine sq_resAT Try.results9 (by first | exact .inl rfl | exact .inr rfl) rfl ?_
      refine ⟨_, ⟨none, hz, rfl, rfl⟩, ?_⟩
      show Ent _ ((p, DISK p s) :: F)
      repeat' (first | with_reducible exact Ent.refl _ | with_reducible refine Ent.take_eq ?_ ?_ | rfl | with_reducible refine Ent.oR ?_ | with_reducible refine Ent.trans (oR.drop _ _ _) ?_ | with_reducible refine Ent.trans (Ent.drop _ _) ?_)
    · have hdn : s.down = false := by
        cases hd' : s.down with
        | false => rfl
        | true => rw [hd', if_pos rfl, hl] at hlk; cases hlk
      have hcl := (catS_byt hwf (a := f + i * 12) (by omega) j (by omega)).2
      have hsn : catS s (f + i * 12) (j + 1) = catS s (f + i * 12) j ++ s.now (f + i * 12 + j) := rfl
      repeat' (first | with_reducible (first | refine go1 ?_ | refine sct ?_ | refine scf ?_ | refine sgr ?_) | (with_reducible refine sc_cond (fun h => ?_) (fun h => ?_)) <;> (try (exfalso; first | contradiction | omega | exact h Iff.rfl)) | fail)
      refine sw_appendV (kd := .u8) (nb := 1) (catS s (f + i * 12) j) (s.now (f + i * 12 + j)) o (fun h => by rw [ho.1 h]; rfl) src_pts0 ⟨rfl, by omega, by omega⟩ fun o2 ho2 => ?_
      rw [← hsn]
      repeat' (first | with_reducible refine sw_in (by omega) ?_ | with_reducible (first | refine go1 ?_ | refine sct ?_ | refine scf ?_ | refine sgr ?_) | fail)
      refine sq_round ⟨(j + 1, o2), by simp only; omega, ⟨fun h => (by
        have := (ho2.1 h).2
        rw [this] at h5
        cases h5), fun h => (by simp at h)⟩, fun _ => hdn⟩ ?_ ?_ ?_
      · show 12 - (j + 1) < 12 - j
        omega
      · repeat' (first | exact says_nil | refine says_cons rfl ?_ | refine says_cons (by simp) ?_)
      · repeat' (first | with_reducible exact Ent.refl _ | with_reducible refine Ent.take_eq ?_ ?_ | rfl | with_reducible refine Ent.oR ?_ | with_reducible refine Ent.trans (oR.drop _ _ _) ?_ | with_reducible refine Ent.trans (Ent.drop _ _) ?_)
  · have hj2 : j = 12 := by omega
    subst hj2
    have hdn := hd (by omega)
    have hcat := catS_byt hwf (a := f + i * 12) (by omega) 12 (by omega)
    rw [hdn, if_neg (by decide)]
    obtain ⟨⟨b9, t9⟩, rfl⟩ : ∃ x, o = some x := by
      cases o with
      | none => exact absurd (ho.1 rfl) (by decide)
      | some x => exact ⟨x, rfl⟩
    unfold readCk
    rw [vG_some]
    generalize catS s (f + i * 12) 12 = bs at *
    rw [show bufV bs.length (some (b9, t9)) = .slice (some ⟨b9, 0, none⟩) bs.length (bs.length + t9.length) from rfl]
    have hun := unfr_ok hcat.1
    repeat' (first | with_reducible (first | refine go1 ?_ | refine sct ?_ | refine scf ?_ | refine sgr ?_) | fail)
    refine sw_call (cUnframe_ok b9 _ _ bs RdB.own hcat.1 (by omega)) ?_
    rintro _ _ (⟨he, rfl, rfl⟩ | ⟨he, b1, t1, rfl, rfl⟩)
    · rw [if_pos he]
      repeat' (first | with_reducible (first | refine go1 ?_ | refine sct ?_ | refine scf ?_ | refine sgr ?_) | (with_reducible refine sc_cond (fun h => ?_) (fun h => ?_)) <;> (try (exfalso; first | contradiction | omega | exact h Iff.rfl)) | fail)
      refine sw_build (ckV 0 (.slice none 0 0) false) (by kernel_rfl) ?_
      repeat' (first | with_reducible (first | refine go1 ?_ | refine sct ?_ | refine scf ?_ | refine sgr ?_) | fail)
      refine sw_store_agg ?_
      repeat' (first | with_reducible (first | refine go1 ?_ | refine sct ?_ | refine scf ?_ | refine sgr ?_) | fail)
      refine sq_resAT Try.results9 (by first | exact .inl rfl | exact .inr rfl) rfl ?_
      refine ⟨_, ⟨none, hz, rfl, rfl⟩, ?_⟩
      show Ent _ ((p, DISK p s) :: F)
      repeat' (first | with_reducible exact Ent.refl _ | with_reducible refine Ent.take_eq ?_ ?_ | rfl | with_reducible refine Ent.oR ?_ | with_reducible refine Ent.trans (oR.drop _ _ _) ?_ | with_reducible refine Ent.trans (Ent.drop _ _) ?_)
    rw [if_neg (by omega)]
    obtain ⟨K, N, e1, e2, e3⟩ := hun he
    have hub : Byt (unfr bs).2.1 := by rw [e1]; exact hcat.1.sub _ _
    have hul : (unfr bs).2.1.length ≤ 6144 := by rw [e1, List.length_take, List.length_drop]; omega
    generalize (unfr bs).2.1 = us at *
    repeat' (first | with_reducible (first | refine go1 ?_ | refine sct ?_ | refine scf ?_ | refine sgr ?_) | (with_reducible refine sc_cond (fun h => ?_) (fun h => ?_)) <;> (try (exfalso; first | contradiction | omega | exact h Iff.rfl)) | fail)
    refine sw_call (rcTakeChunk_ok b1 _ b1 0 (us.length + t1.length) us (by omega) reads_own hub (by omega)) ?_
    rintro _ _ ⟨q, hq, rfl, rfl⟩
    repeat' (first | with_reducible (first | refine go1 ?_ | refine sct ?_ | refine scf ?_ | refine sgr ?_) | fail)
    refine sw_alloc fun b2 => ?_
    refine sw_store_agg ?_
    repeat' (first | with_reducible (first | refine go1 ?_ | refine sct ?_ | refine scf ?_ | refine sgr ?_) | with_reducible refine sw_guard_skip_u ?_ | (with_reducible refine sc_cond (fun h => ?_) (fun h => ?_)) <;> (try (exfalso; first | contradiction | omega | exact h Iff.rfl)) | (with_reducible refine sw_guard_split (fun h => ?_) (fun h => ?_)) <;> (try (exfalso; first | contradiction | omega | exact h Iff.rfl)) | (with_reducible refine sw_pick (fun h => ?_) (fun h => ?_)) <;> (try (exfalso; first | contradiction | omega | exact h Iff.rfl)) | fail)
    iterate 2
      · rw [if_pos (by omega)]
        refine sw_build (ckV 0 (.slice none 0 0) false) (by kernel_rfl) ?_
        repeat' (first | with_reducible (first | refine go1 ?_ | refine sct ?_ | refine scf ?_ | refine sgr ?_) | fail)
        refine sw_store_agg ?_
        repeat' (first | with_reducible (first | refine go1 ?_ | refine sct ?_ | refine scf ?_ | refine sgr ?_) | fail)
        refine sq_resAT Try.results9 (by first | exact .inl rfl | exact .inr rfl) rfl ?_
        refine ⟨_, ⟨none, hz, rfl, rfl⟩, ?_⟩
        show Ent _ ((p, DISK p s) :: F)
        repeat' (first | with_reducible exact Ent.refl _ | with_reducible refine Ent.take_eq ?_ ?_ | rfl | with_reducible refine Ent.oR ?_ | with_reducible refine Ent.trans (oR.drop _ _ _) ?_ | with_reducible refine Ent.trans (Ent.drop _ _) ?_)
    rw [if_neg (by omega)]
    refine sw_store_agg ?_
    repeat' (first | with_reducible (first | refine go1 ?_ | refine sct ?_ | refine scf ?_ | refine sgr ?_) | fail)
    refine sq_resAT Try.results9 (by first | exact .inl rfl | exact .inr rfl) rfl ?_
    refine ⟨_, ⟨q, hq, rfl, rfl⟩, ?_⟩
    repeat' (first | with_reducible exact Ent.refl _ | with_reducible refine Ent.take_eq ?_ ?_ | rfl | with_reducible refine Ent.oR ?_ | with_reducible refine Ent.trans (oR.drop _ _ _) ?_ | with_reducible refine Ent.trans (Ent.drop _ _) ?_)
end Go.Gsl

namespace Go.Gsl
set_option linter.unusedVariables false
open Go.Proofs

theorem oR_ap {α : Type} (g : α → Res) (A F : List Res) (o : Option α) : oR g A o ++ F = oR g (A ++ F) o := by cases o <;> rfl
/-- a writer's row -/
abbrev wRow (p : Nat) (f c : Int) (l : List Sp) (o : Option (Nat × Nat × List Value)) (n : Int) (done : Bool) : List Value := ckRow (.pointer (some ⟨p, 0, none⟩)) f c (nV l.length o) n done
abbrev wCell (w p : Nat) (f c : Int) (l : List Sp) (o : Option (Nat × Nat × List Value)) (n : Int) (done : Bool) : Res := (w, pts w (.cells (wRow p f c l o n done).toArray 39 (0, 0)))
/-- a writer that holds these pairs back -/
def WR (w p : Nat) (f c : Int) (l : List Sp) (n : Int) (done : Bool) : HProp := fun h => ∃ o, NOk 3 (spC l) l.length o ∧ hall (oR (SpG l) [wCell w p f c l o n done] o) h
section
variable {P : Program} {ops : List Oper} {Q : Cont} {n0 : Nat} {w0 : World} {l0 : List Oper} {e : Env} {Rs F : List Res}
theorem WR.sc {cd : Code} (w p : Nat) (f c : Int) (l : List Sp) (n : Int) (done : Bool) [tk : Take Rs w (WR w p f c l n done) F]
    (q : ∀ o, NOk 3 (spC l) l.length o → SC P Q n0 w0 cd e (oR (SpG l) (wCell w p f c l o n done :: F) o)) : SC P Q n0 w0 cd e Rs := by
  refine sc_opn (k := w) (fun o => NOk 3 (spC l) l.length o) (fun o => hall (oR (SpG l) [wCell w p f c l o n done] o)) (fun x hx => hx) fun o ho => ?_
  refine sc_ent (Ent.hall_open w _ _) ?_
  rw [oR_ap]
  exact q o ho
theorem WR.close {w p : Nat} {f c : Int} {l : List Sp} {n : Int} {done : Bool} {o : Option (Nat × Nat × List Value)} (h : NOk 3 (spC l) l.length o) :
    Ent (oR (SpG l) (wCell w p f c l o n done :: F) o) ((w, WR w p f c l n done) :: F) := by
  have h5 := Ent.hall_close w (oR (SpG l) [wCell w p f c l o n done] o) F
  rw [oR_ap] at h5
  exact h5.trans (Ent.head fun x hx => ⟨o, h, hx⟩)
end

section
variable {P : Program} {ops : List Oper} {Q : Cont} {n : Nat} {w0 : World} {rest : List Oper} {e : Env} {Rs F : List Res} {ty : TypeId}
/-- append(s, ys...), an element having several cells, s being nil or a row of one's own -/
theorem sw_appendNVR {d : Nat} {t el : TypeId} {nb sz : Nat} {x y : Operand} {z : Value} {a : Option Addr} {m' c' : Nat} {pos : String} {after : Array Edge} (cells src : List Value) (m : Nat) (o : Option (Nat × Nat × List Value)) (ho : NOk sz cells m o)
    [hx : Ev n e x (nV m o)] [hy : Ev n e y (.slice a m' c')] [he : Elem P t el sz nb z] [tk : TakeO Rs (nG el cells) o F]
    (hsrc : ∀ w, Sat w0 w Rs → ∀ j v, src[j]? = some v → ∃ ad, a = some ad ∧ w.cell? (ad.add j) = some v)
    (h1 : ∀ v ∈ src, v.oneCell' = true) (hzc : z.cells.size = sz) (hsz : 0 < sz)
    (h : src.length = m' * sz ∧ m + m' ≤ 9223372036854775807 ∧ (m + m') * nb ≤ 140737488355328)
    (k : ∀ o', NOk sz (cells ++ src) (m + m') o' → SW P ops Q n w0 rest ((d, nV (m + m') o') :: e) (oR (nG el (cells ++ src)) F o')) :
    SW P ops Q n w0 ({ dst := some d, op := .call { callee := .builtin .append, args := [x, y].toArray, argTypes := [t, t].toArray }, type := ty, pos := pos, after := after, guard := none } :: rest) e Rs := by
  obtain ⟨h2, h3, h4⟩ := h
  obtain ⟨q1, q2, q3⟩ := ho
  cases o with
  | none =>
    obtain ⟨rfl, rfl⟩ := q2 rfl
    have hxn : Ev n e x (.slice none 0 0) := hx
    rcases Nat.eq_zero_or_pos m' with h0 | hp
    · subst h0
      have hs : src = [] := List.length_eq_zero_iff.1 (by omega)
      subst hs
      refine sw_append_00 (hx := hxn) (hy := hy) (el := el) (fun w hw => ?_)
      exact k none ⟨by simp, fun _ => ⟨rfl, rfl⟩, fun b c t hh => by cases hh⟩ w (hw.ent tk.ent)
    · refine sw_appendN_nil (src := src) (hx := hxn) (hy := hy) (el := el) hsrc hzc hsz ⟨by omega, by omega, by omega, by rw [Nat.zero_add] at h4; omega⟩ fun b' r c2 hc2 hl2 => ?_
      have hk := k (some (b', c2, r)) ⟨by rw [List.nil_append, Nat.zero_add]; omega, fun h => (by cases h), fun b c t hh => by cases hh; rw [Nat.zero_add, List.nil_append]; exact ⟨hc2, hl2⟩⟩
      rw [Nat.zero_add] at hk
      exact sw_ent (Ent.cons _ tk.ent) hk
  | some bt =>
    obtain ⟨b, c, r0⟩ := bt
    obtain ⟨q4, q5⟩ := q3 b c r0 rfl
    have hxs : Ev n e x (.slice (some ⟨b, 0, none⟩) m c) := hx
    have tk' : Take Rs b (pts b (.cells (cells ++ r0).toArray el (0, 0))) F := ⟨tk.ent, tk.back⟩
    refine sw_appendN (src := src) (hx := hxs) (hy := hy) (el := el) (tk := tk') hsrc h1 hzc hsz ⟨q4, q5, by omega, h3, h4⟩ fun b' r c2 hc2 hl2 => ?_
    rw [List.take_left' q1] at hl2 ⊢
    exact k (some (b', c2, r)) ⟨by rw [List.length_append, q1, h2, Nat.add_mul], fun h => (by cases h), fun b c t hh => by cases hh; exact ⟨hc2, hl2⟩⟩
end

/-- what Put does, all pairs being together -/
inductive PutR (f c : Int) : List Sp → Int → Dk → List Sp → Int → Dk → Int → Prop
  | stop {L n s} (h : L.length ≤ 16) : PutR f c L n s L n s 0
  | bad {L n s s' e} (h : 16 < L.length) (hw : CkW s f c ⟨n, false, L.take 16⟩ s' e) (he : e ≠ 0) : PutR f c L n s L n s' e
  | turn {L n s s1 L' n' s' e} (h : 16 < L.length) (hw : CkW s f c ⟨n, false, L.take 16⟩ s1 0) (hr : PutR f c (L.drop 16) (n + 1) s1 L' n' s' e) : PutR f c L n s L' n' s' e

theorem CkW.zero {s s' : Dk} {f n : Int} {c : Ck} (h : CkW s f n c s' 0) : areaE f n s.sure.length = 0 ∧ c.chk = 0 ∧ c.num < n ∧ WrT c.secs (f + c.num * 12) s s' 0 := by
  rcases h with ⟨h, h1, _⟩ | ⟨_, h, h1, _⟩ | ⟨_, _, _, h1, _⟩ | ⟨h1, h2, h3, h4⟩
  · omega
  · omega
  · cases h1
  · exact ⟨h1, h2, h3, h4⟩

set_option maxHeartbeats 4000000 in
theorem ckPut_ok (w p k : Nat) (s : Dk) (r : HProp) (f c : Int) (l m : List Sp) (n : Int) (v : Value) (hf : I64 f) (hc : I64 c) (hv : RdS r v m) (hi : ∀ x ∈ l ++ m, x.In) (hn : 0 ≤ n ∧ n ≤ 4096) (hl : (l ++ m).length ≤ 3518437208000) :
    Spec Try.prog 14 [.pointer (some ⟨w, 0, none⟩), v] [w, p, k] [WR w p f c l n false, DISK p s, r]
    fun F x Rs' => ∃ L n' s' e, PutR f c (l ++ m) n s L n' s' e ∧ x = .int .i64 e ∧ Rs' = (w, WR w p f c L n' false) :: (p, DISK p s') :: (k, r) :: F := by
  obtain ⟨a, cp, rfl, hcp, hsome, hr⟩ := hv
  refine spec_of Try.func14 rfl Try.ntmps14 rfl ?_
  intro w0 F
  refine WR.sc w p f c l n false fun o ho => ?_
  repeat' (first | with_reducible (first | refine go1 ?_ | refine sct ?_ | refine scf ?_ | refine sgr ?_) | ((with_reducible refine sw_call (ckNone_ok w p f c (nV l.length o) n false) ?_); rintro _ _ ⟨rfl, rfl⟩) | (with_reducible refine sc_cond (fun h => ?_) (fun h => ?_)) <;> (try (exfalso; first | contradiction | omega | exact h Iff.rfl)) | fail)
  refine sw_appendNVR (nb := 40) (spC l) (spC m) l.length o ho (fun w hw => hr.sat (k := k) hw) spC_one rfl (by omega) ⟨spC_len m, by rw [List.length_append] at hl; omega, by rw [List.length_append] at hl; omega⟩ fun o2 ho2 => ?_
  rw [← spC_app, ← List.length_append] at ho2
  rw [← spC_app, ← List.length_append]
  repeat' (first | with_reducible (first | refine go1 ?_ | refine sct ?_ | refine scf ?_ | refine sgr ?_) | fail)
  refine sw_store ?_
  repeat' (first | with_reducible (first | refine go1 ?_ | refine sct ?_ | refine scf ?_ | refine sgr ?_) | fail)
  refine sc_loop (α := { x : List Sp × Int × Dk × Option (Nat × Nat × List Value) // NOk 3 (spC x.1) x.1.length x.2.2.2 ∧ (0 ≤ x.2.1 ∧ x.2.1 ≤ 4096) ∧ (∀ y ∈ x.1, y.In) ∧ x.1.length ≤ 3518437208000 ∧ ∀ L n' s' e, PutR f c x.1 x.2.1 x.2.2.1 L n' s' e → PutR f c (l ++ m) n s L n' s' e })
    (fun x => [(0, .pointer (some ⟨w, 0, none⟩))]) (fun x => oR (SpG x.1.1) (wCell w p f c x.1.1 x.1.2.2.2 x.1.2.1 false :: (p, DISK p x.1.2.2.1) :: (k, r) :: F) x.1.2.2.2) (fun x => x.1.1.length)
    ⟨(l ++ m, n, s, o2), ho2, hn, hi, hl, fun L n' s' e h => h⟩ ?_ ?_ ?_
  · repeat' (first | exact says_nil | refine says_cons rfl ?_ | refine says_cons (by simp) ?_)
  · repeat' (first | with_reducible exact Ent.refl _ | with_reducible refine Ent.take_eq ?_ ?_ | rfl | with_reducible refine Ent.oR ?_ | with_reducible refine Ent.trans (oR.drop _ _ _) ?_ | with_reducible refine Ent.trans (Ent.drop _ _) ?_)
  rintro ⟨⟨L, n1, s1, q⟩, hx⟩ e
  obtain ⟨hq, hn1, hiL, hlL, hK⟩ := hx
  (try simp only at hq hn1 hiL hlL hK)
  simp only [List.cons_append, List.nil_append]
  have hq0 : q = none → L.length = 0 := fun h => (hq.2.1 h).2
  repeat' (first | with_reducible (first | refine go1 ?_ | refine sct ?_ | refine scf ?_ | refine sgr ?_) | with_reducible refine sw_op (h := runop_lenNV q hq0) ?_ | (with_reducible refine sc_cond (fun h => ?_) (fun h => ?_)) <;> (try (exfalso; first | contradiction | omega | exact h Iff.rfl)) | fail)
  · have hlt : 16 < L.length := by omega
    obtain ⟨⟨b, c2, t⟩, rfl⟩ : ∃ y, q = some y := by
      cases q with
      | none => have := (hq.2.1 rfl).2; omega
      | some y => exact ⟨y, rfl⟩
    have hcap := (hq.2.2 b c2 t rfl).1
    rw [nG_some, show wCell w p f c L (some (b, c2, t)) n1 false = (w, pts w (.cells (ckRow (.pointer (some ⟨p, 0, none⟩)) f c (.slice (some ⟨b, 0, none⟩) L.length c2) n1 false).toArray 39 (0, 0))) from rfl]
    have hrL : Reads (pts b (.cells (spC L ++ t).toArray 50 (0, 0))) (some ⟨b, 0, none⟩) (spC L) := reads_pts fun j v hj => by rw [Nat.zero_add, List.getElem?_append_left (List.getElem?_eq_some_iff.1 hj).1]; exact hj
    have h16 : (L.take 16).length = 16 := by rw [List.length_take]; omega
    have hrd16 : RdS (pts b (.cells (spC L ++ t).toArray 50 (0, 0))) (.slice (some ⟨b, 0, none⟩) (16 - 0) (16 - 0)) (L.take 16) := by
      have := hrL.sub3 0 16
      rw [List.drop_zero] at this
      exact ⟨_, 16, by rw [h16], by rw [h16]; omega, fun _ => ⟨b, 0, rfl⟩, this⟩
    have hwr := ckWrite_ok p b s1 (pts b (.cells (spC L ++ t).toArray 50 (0, 0))) f c (.slice (some ⟨b, 0, none⟩) (16 - 0) (16 - 0)) ⟨n1, false, L.take 16⟩ hf hc hrd16 ⟨by unfold I64; simp only; omega, fun x hx => hiL x (List.mem_of_mem_take hx)⟩ (by simp only; omega)
    simp only at hwr
    have hd16 : RdS (pts b (.cells (spC L ++ t).toArray 50 (0, 0))) (.slice (some ⟨b, 0 + 16 * 3, none⟩) (L.length - 16) (c2 - 16)) (L.drop 16) := by
      have := hrL.sub3 16 (L.length - 16)
      rw [show (L.drop 16).take (L.length - 16) = L.drop 16 from List.take_of_length_le (by rw [List.length_drop]; omega)] at this
      exact ⟨_, c2 - 16, by rw [List.length_drop], by rw [List.length_drop]; omega, fun _ => ⟨b, _, rfl⟩, this⟩
    have hcl := clS_ok b _ _ (L.drop 16) hd16 (by rw [List.length_drop]; omega)
    refine sc_lin ([(w, pts w (.cells (ckRow (.pointer (some ⟨p, 0, none⟩)) f c (.slice (some ⟨b, 0, none⟩) L.length c2) n1 false).toArray 39 (0, 0)))]) (llp 0 (llp 1 (llp 2 (llp 3 (llp 4 (llp 5 (llp 6 (llp 7 (llp 8 (llp 9 (llp 10 (llp 11 (llp 12 (llp 13 (llp 14 (llp 15 (llp 16 (llp 17 (lle 18 (llp 19 ll0)))))))))))))))))))) (by kernel_rfl) rfl (by kernel_rfl) ?_
    all_goals (iterate 7 refine go1l ?_)
    all_goals refine sl_take (h := runop_loadPart [.int .i64 f, .int .i64 c] rfl rfl) ?_
    all_goals (iterate 8 refine go1l ?_)
    all_goals refine sl_take (h := runop_sliceN 0 16 16 0 (by omega) ⟨rfl, rfl, rfl, rfl⟩) ?_
    all_goals refine sl_take (h := runop_buildR (ckV n1 (.slice (some ⟨b, 0, none⟩) (16 - 0) (16 - 0)) false) (by kernel_rfl)) ?_
    all_goals refine sl_eff ?_
    all_goals (repeat' (first | with_reducible (first | refine go1 ?_ | refine sct ?_ | refine scf ?_ | refine sgr ?_) | ((with_reducible refine sw_callf hwr ?_); rintro _ _ ⟨s2, e2, hW, rfl, rfl⟩) | with_reducible refine sl_back ?_ | fail))
    all_goals refine go1l ?_
    all_goals refine sl_done ?_
    repeat' (first | with_reducible (first | refine go1 ?_ | refine sct ?_ | refine scf ?_ | refine sgr ?_) | (with_reducible refine sc_cond (fun h => ?_) (fun h => ?_)) <;> (try (exfalso; first | contradiction | omega | exact h Iff.rfl)) | fail)
    · refine sq_ret1 Try.results14 ?_
      refine ⟨_, ⟨L, n1, s2, e2, hK _ _ _ _ (.bad hlt hW h), rfl, rfl⟩, ?_⟩
      refine Ent.trans ?_ (WR.close hq)
      rw [nG_some]
      repeat' (first | with_reducible exact Ent.refl _ | with_reducible refine Ent.take_eq ?_ ?_ | rfl | with_reducible refine Ent.oR ?_ | with_reducible refine Ent.trans (oR.drop _ _ _) ?_ | with_reducible refine Ent.trans (Ent.drop _ _) ?_)
    · have he : e2 = 0 := by omega
      subst he
      have hn2 := hW.zero
      have hn3 := Ck.chk_ok hn2.2.1
      refine sw_op (h := runop_sliceN 16 L.length c2 (0 + 16 * 3) (by omega) ⟨rfl, rfl, rfl, by rw [if_neg (by omega)]⟩) ?_
      refine sw_call hcl ?_
      rintro _ _ ⟨q3, hq3, rfl, rfl⟩
      repeat' (first | with_reducible (first | refine go1 ?_ | refine sct ?_ | refine scf ?_ | refine sgr ?_) | fail)
      refine sw_store ?_
      repeat' (first | with_reducible refine sw_in (by omega) ?_ | with_reducible (first | refine go1 ?_ | refine sct ?_ | refine scf ?_ | refine sgr ?_) | fail)
      refine sw_store ?_
      repeat' (first | with_reducible (first | refine go1 ?_ | refine sct ?_ | refine scf ?_ | refine sgr ?_) | fail)
      refine sq_round ⟨(L.drop 16, n1 + 1, s2, q3), hq3, by simp only at hn3 ⊢; omega, fun x hx => hiL x (List.mem_of_mem_drop hx), by simp only [List.length_drop]; omega, fun L' n' s' e h => hK _ _ _ _ (.turn hlt hW h)⟩ ?_ ?_ ?_
      · show (L.drop 16).length < L.length
        rw [List.length_drop]
        omega
      · repeat' (first | exact says_nil | refine says_cons rfl ?_ | refine says_cons (by simp) ?_)
      · repeat' (first | with_reducible exact Ent.refl _ | with_reducible refine Ent.take_eq ?_ ?_ | rfl | with_reducible refine Ent.oR ?_ | with_reducible refine Ent.trans (oR.drop _ _ _) ?_ | with_reducible refine Ent.trans (Ent.drop _ _) ?_)
  · repeat' (first | with_reducible (first | refine go1 ?_ | refine sct ?_ | refine scf ?_ | refine sgr ?_) | fail)
    refine sq_ret1 Try.results14 ?_
    refine ⟨_, ⟨L, n1, s1, 0, hK _ _ _ _ (.stop (by omega)), rfl, rfl⟩, ?_⟩
    exact WR.close hq
end Go.Gsl

namespace Go.Gsl
set_option linter.unusedVariables false
open Go.Proofs

/-- what a barrier does -/
def BarC (s s' : Dk) (e : Int) : Prop := (s.looks 0 ≠ 0 ∧ e = s.looks 0 ∧ s' = s) ∨ (s.looks 0 = 0 ∧ s.fuse ≠ 1 ∧ e = 0 ∧ s' = s.barred) ∨ (s.looks 0 = 0 ∧ s.fuse = 1 ∧ e = 6 ∧ ∃ ks, KeysD s.dirty ks ∧ s' = s.met.gone ks s.keep)
theorem dBarrier_any (p : Nat) (s : Dk) : Spec Try.prog 38 [.pointer (some ⟨p, 0, none⟩)] [p] [DISK p s] fun F v Rs' => ∃ s' e, BarC s s' e ∧ v = .int .i64 e ∧ Rs' = (p, DISK p s') :: F := by
  by_cases h : s.looks 0 = 0
  · exact (dBarrier_ok p s h).mono fun F v Rs' h2 => by
      rcases h2 with ⟨h3, h4, h5⟩ | ⟨h3, h4, ks, h5, h6⟩
      · exact ⟨_, 0, .inr (.inl ⟨h, h3, rfl, rfl⟩), h4, h5⟩
      · exact ⟨_, 6, .inr (.inr ⟨h, h3, rfl, ks, h5, rfl⟩), h4, h6⟩
  · exact (dBarrier_bad p s h).mono fun F v Rs' h2 => ⟨s, _, .inl ⟨h, rfl, rfl⟩, h2⟩
/-- what Done does: what is held back, how many chunks, whether it is done, the disk, both answers -/
def DoneR (f c : Int) (l : List Sp) (n : Int) (s : Dk) (L : List Sp) (n' : Int) (done : Bool) (s' : Dk) (a e : Int) : Prop :=
  (CkW s f c ⟨n, true, l⟩ s' e ∧ e ≠ 0 ∧ L = l ∧ n' = n ∧ done = false ∧ a = 0) ∨
  (∃ s1, CkW s f c ⟨n, true, l⟩ s1 0 ∧ BarC s1 s' e ∧ L = [] ∧ n' = n + 1 ∧ ((e ≠ 0 ∧ done = false ∧ a = 0) ∨ (e = 0 ∧ done = true ∧ a = n + 1)))

theorem ckDone_done (w p : Nat) (f c : Int) (l : List Sp) (n : Int) : Spec Try.prog 13 [.pointer (some ⟨w, 0, none⟩)] [w] [WR w p f c l n true] fun F x Rs' => x = .tuple #[.int .i64 0, .int .i64 191] ∧ Rs' = (w, WR w p f c l n true) :: F := by
  refine spec_of Try.func13 rfl Try.ntmps13 rfl ?_
  intro w0 F
  refine WR.sc w p f c l n true fun o ho => ?_
  repeat' (first | with_reducible (first | refine go1 ?_ | refine sct ?_ | refine scf ?_ | refine sgr ?_) | ((with_reducible refine sw_call (ckNone_ok w p f c (nV l.length o) n true) ?_); rintro _ _ ⟨rfl, rfl⟩) | (with_reducible refine sc_cond (fun h => ?_) (fun h => ?_)) <;> (try (exfalso; first | contradiction | omega | exact h Iff.rfl)) | fail)
  refine sq_ret2 Try.results13 ?_
  refine ⟨_, ⟨rfl, rfl⟩, ?_⟩
  refine Ent.trans ?_ (WR.close ho)
  repeat' (first | with_reducible exact Ent.refl _ | with_reducible refine Ent.take_eq ?_ ?_ | rfl | with_reducible refine Ent.oR ?_ | with_reducible refine Ent.trans (oR.drop _ _ _) ?_ | with_reducible refine Ent.trans (Ent.drop _ _) ?_)
theorem ckPut_done (w p : Nat) (f c : Int) (l : List Sp) (n : Int) (v : Value) : Spec Try.prog 14 [.pointer (some ⟨w, 0, none⟩), v] [w] [WR w p f c l n true] fun F x Rs' => x = .int .i64 191 ∧ Rs' = (w, WR w p f c l n true) :: F := by
  refine spec_of Try.func14 rfl Try.ntmps14 rfl ?_
  intro w0 F
  refine WR.sc w p f c l n true fun o ho => ?_
  repeat' (first | with_reducible (first | refine go1 ?_ | refine sct ?_ | refine scf ?_ | refine sgr ?_) | ((with_reducible refine sw_call (ckNone_ok w p f c (nV l.length o) n true) ?_); rintro _ _ ⟨rfl, rfl⟩) | (with_reducible refine sc_cond (fun h => ?_) (fun h => ?_)) <;> (try (exfalso; first | contradiction | omega | exact h Iff.rfl)) | fail)
  refine sq_ret1 Try.results14 ?_
  refine ⟨_, ⟨rfl, rfl⟩, ?_⟩
  refine Ent.trans ?_ (WR.close ho)
  repeat' (first | with_reducible exact Ent.refl _ | with_reducible refine Ent.take_eq ?_ ?_ | rfl | with_reducible refine Ent.oR ?_ | with_reducible refine Ent.trans (oR.drop _ _ _) ?_ | with_reducible refine Ent.trans (Ent.drop _ _) ?_)
theorem ckWritten_wr (w p : Nat) (f c : Int) (l : List Sp) (n : Int) (done : Bool) : Spec Try.prog 15 [.pointer (some ⟨w, 0, none⟩)] [w] [WR w p f c l n done] fun F x Rs' => x = .int .i64 n ∧ Rs' = (w, WR w p f c l n done) :: F := by
  refine spec_of Try.func15 rfl Try.ntmps15 rfl ?_
  intro w0 F
  refine WR.sc w p f c l n done fun o ho => ?_
  repeat' (first | with_reducible (first | refine go1 ?_ | refine sct ?_ | refine scf ?_ | refine sgr ?_) | ((with_reducible refine sw_call (ckNone_ok w p f c (nV l.length o) n done) ?_); rintro _ _ ⟨rfl, rfl⟩) | (with_reducible refine sc_cond (fun h => ?_) (fun h => ?_)) <;> (try (exfalso; first | contradiction | omega | exact h Iff.rfl)) | fail)
  refine sq_ret1 Try.results15 ?_
  refine ⟨_, ⟨rfl, rfl⟩, ?_⟩
  refine Ent.trans ?_ (WR.close ho)
  repeat' (first | with_reducible exact Ent.refl _ | with_reducible refine Ent.take_eq ?_ ?_ | rfl | with_reducible refine Ent.oR ?_ | with_reducible refine Ent.trans (oR.drop _ _ _) ?_ | with_reducible refine Ent.trans (Ent.drop _ _) ?_)


set_option maxHeartbeats 4000000 in
theorem ckDone_ok (w p : Nat) (s : Dk) (f c : Int) (l : List Sp) (n : Int) (hf : I64 f) (hc : I64 c) (hi : ∀ x ∈ l, x.In) (hn : 0 ≤ n ∧ n ≤ 4096) (hl : l.length ≤ 3518437208000) :
    Spec Try.prog 13 [.pointer (some ⟨w, 0, none⟩)] [w, p] [WR w p f c l n false, DISK p s]
    fun F x Rs' => ∃ L n' d' s' a e, DoneR f c l n s L n' d' s' a e ∧ x = .tuple #[.int .i64 a, .int .i64 e] ∧ Rs' = (w, WR w p f c L n' d') :: (p, DISK p s') :: F := by
  refine spec_of Try.func13 rfl Try.ntmps13 rfl ?_
  intro w0 F
  refine WR.sc w p f c l n false fun o ho => ?_
  repeat' (first | with_reducible (first | refine go1 ?_ | refine sct ?_ | refine scf ?_ | refine sgr ?_) | ((with_reducible refine sw_call (ckNone_ok w p f c (nV l.length o) n false) ?_); rintro _ _ ⟨rfl, rfl⟩) | (with_reducible refine sc_cond (fun h => ?_) (fun h => ?_)) <;> (try (exfalso; first | contradiction | omega | exact h Iff.rfl)) | fail)
  have hin : (⟨n, true, l⟩ : Ck).In := ⟨by unfold I64; simp only; omega, hi⟩
  have hz : NOk 3 (spC []) ([] : List Sp).length none := ⟨rfl, fun _ => ⟨rfl, rfl⟩, fun b c t h => (by cases h)⟩
  cases o with
  | none =>
    have hl0 := (ho.2.1 rfl).2
    have hl1 : l = [] := List.length_eq_zero_iff.1 hl0
    subst hl1
    rw [nG_none, show nV ([] : List Sp).length none = .slice none 0 0 from rfl]
    have hwr := ckWrite_ok p w s (pts w (.cells (ckRow (.pointer (some ⟨p, 0, none⟩)) f c (.slice none 0 0) n false).toArray 39 (0, 0))) f c (.slice none 0 0) ⟨n, true, []⟩ hf hc (RdS.nil _) hin (by simp only; omega)
    simp only at hwr
    refine sc_lin ([(w, pts w (.cells (ckRow (.pointer (some ⟨p, 0, none⟩)) f c (.slice none 0 0) n false).toArray 39 (0, 0)))]) (llp 0 (llp 1 (llp 2 (llp 3 (llp 4 (llp 5 (llp 6 (llp 7 (llp 8 (llp 9 (llp 10 (llp 11 (llp 12 (llp 13 (llp 14 (llp 15 (llp 16 (lle 17 (llp 18 ll0))))))))))))))))))) (by kernel_rfl) rfl (by kernel_rfl) ?_
    all_goals (iterate 7 refine go1l ?_)
    all_goals refine sl_take (h := runop_loadPart [.int .i64 f, .int .i64 c] rfl rfl) ?_
    all_goals (iterate 8 refine go1l ?_)
    all_goals refine sl_take (h := runop_buildR (ckV n (.slice none 0 0) true) (by kernel_rfl)) ?_
    all_goals refine sl_eff ?_
    all_goals (repeat' (first | with_reducible (first | refine go1 ?_ | refine sct ?_ | refine scf ?_ | refine sgr ?_) | ((with_reducible refine sw_callf hwr ?_); rintro _ _ ⟨s2, e2, hW, rfl, rfl⟩) | with_reducible refine sl_back ?_ | fail))
    all_goals refine go1l ?_
    all_goals refine sl_done ?_
    repeat' (first | with_reducible (first | refine go1 ?_ | refine sct ?_ | refine scf ?_ | refine sgr ?_) | (with_reducible refine sc_cond (fun h => ?_) (fun h => ?_)) <;> (try (exfalso; first | contradiction | omega | exact h Iff.rfl)) | fail)
    · refine sq_ret2 Try.results13 ?_
      refine ⟨_, ⟨[], n, false, s2, 0, e2, .inl ⟨hW, h, rfl, rfl, rfl, rfl⟩, rfl, rfl⟩, ?_⟩
      refine Ent.trans ?_ (WR.close ho)
      rw [nG_none]
      repeat' (first | with_reducible exact Ent.refl _ | with_reducible refine Ent.take_eq ?_ ?_ | rfl | with_reducible refine Ent.oR ?_ | with_reducible refine Ent.trans (oR.drop _ _ _) ?_ | with_reducible refine Ent.trans (Ent.drop _ _) ?_)
    have he : e2 = 0 := by omega
    subst he
    refine sw_store ?_
    repeat' (first | with_reducible refine sw_in (by omega) ?_ | with_reducible (first | refine go1 ?_ | refine sct ?_ | refine scf ?_ | refine sgr ?_) | fail)
    refine sw_store ?_
    repeat' (first | with_reducible (first | refine go1 ?_ | refine sct ?_ | refine scf ?_ | refine sgr ?_) | fail)
    refine sw_call (dBarrier_any p s2) ?_
    rintro _ _ ⟨s3, e3, hB, rfl, rfl⟩
    repeat' (first | with_reducible (first | refine go1 ?_ | refine sct ?_ | refine scf ?_ | refine sgr ?_) | (with_reducible refine sc_cond (fun h => ?_) (fun h => ?_)) <;> (try (exfalso; first | contradiction | omega | exact h Iff.rfl)) | fail)
    · refine sq_ret2 Try.results13 ?_
      refine ⟨_, ⟨[], n + 1, false, s3, 0, e3, .inr ⟨s2, hW, hB, rfl, rfl, .inl ⟨h, rfl, rfl⟩⟩, rfl, rfl⟩, ?_⟩
      refine Ent.trans ?_ (WR.close hz)
      rw [nG_none]
      repeat' (first | with_reducible exact Ent.refl _ | with_reducible refine Ent.take_eq ?_ ?_ | rfl | with_reducible refine Ent.oR ?_ | with_reducible refine Ent.trans (oR.drop _ _ _) ?_ | with_reducible refine Ent.trans (Ent.drop _ _) ?_)
    have he : e3 = 0 := by omega
    subst he
    refine sw_store ?_
    repeat' (first | with_reducible (first | refine go1 ?_ | refine sct ?_ | refine scf ?_ | refine sgr ?_) | fail)
    refine sq_ret2 Try.results13 ?_
    refine ⟨_, ⟨[], n + 1, true, s3, n + 1, 0, .inr ⟨s2, hW, hB, rfl, rfl, .inr ⟨rfl, rfl, rfl⟩⟩, rfl, rfl⟩, ?_⟩
    refine Ent.trans ?_ (WR.close hz)
    rw [nG_none]
    repeat' (first | with_reducible exact Ent.refl _ | with_reducible refine Ent.take_eq ?_ ?_ | rfl | with_reducible refine Ent.oR ?_ | with_reducible refine Ent.trans (oR.drop _ _ _) ?_ | with_reducible refine Ent.trans (Ent.drop _ _) ?_)
  | some y =>
    obtain ⟨b, c2, t⟩ := y
    have hcap := (ho.2.2 b c2 t rfl).1
    rw [nG_some, show nV l.length (some (b, c2, t)) = .slice (some ⟨b, 0, none⟩) l.length c2 from rfl]
    have hwr := ckWrite_ok p b s (pts b (.cells (spC l ++ t).toArray 50 (0, 0))) f c (.slice (some ⟨b, 0, none⟩) l.length c2) ⟨n, true, l⟩ hf hc (RdS.own hcap) hin (by simp only; omega)
    simp only at hwr
    refine sc_lin ([(w, pts w (.cells (ckRow (.pointer (some ⟨p, 0, none⟩)) f c (.slice (some ⟨b, 0, none⟩) l.length c2) n false).toArray 39 (0, 0)))]) (llp 0 (llp 1 (llp 2 (llp 3 (llp 4 (llp 5 (llp 6 (llp 7 (llp 8 (llp 9 (llp 10 (llp 11 (llp 12 (llp 13 (llp 14 (llp 15 (llp 16 (lle 17 (llp 18 ll0))))))))))))))))))) (by kernel_rfl) rfl (by kernel_rfl) ?_
    all_goals (iterate 7 refine go1l ?_)
    all_goals refine sl_take (h := runop_loadPart [.int .i64 f, .int .i64 c] rfl rfl) ?_
    all_goals (iterate 8 refine go1l ?_)
    all_goals refine sl_take (h := runop_buildR (ckV n (.slice (some ⟨b, 0, none⟩) l.length c2) true) (by kernel_rfl)) ?_
    all_goals refine sl_eff ?_
    all_goals (repeat' (first | with_reducible (first | refine go1 ?_ | refine sct ?_ | refine scf ?_ | refine sgr ?_) | ((with_reducible refine sw_callf hwr ?_); rintro _ _ ⟨s2, e2, hW, rfl, rfl⟩) | with_reducible refine sl_back ?_ | fail))
    all_goals refine go1l ?_
    all_goals refine sl_done ?_
    repeat' (first | with_reducible (first | refine go1 ?_ | refine sct ?_ | refine scf ?_ | refine sgr ?_) | (with_reducible refine sc_cond (fun h => ?_) (fun h => ?_)) <;> (try (exfalso; first | contradiction | omega | exact h Iff.rfl)) | fail)
    · refine sq_ret2 Try.results13 ?_
      refine ⟨_, ⟨l, n, false, s2, 0, e2, .inl ⟨hW, h, rfl, rfl, rfl, rfl⟩, rfl, rfl⟩, ?_⟩
      refine Ent.trans ?_ (WR.close ho)
      rw [nG_some]
      repeat' (first | with_reducible exact Ent.refl _ | with_reducible refine Ent.take_eq ?_ ?_ | rfl | with_reducible refine Ent.oR ?_ | with_reducible refine Ent.trans (oR.drop _ _ _) ?_ | with_reducible refine Ent.trans (Ent.drop _ _) ?_)
    have he : e2 = 0 := by omega
    subst he
    refine sw_store ?_
    repeat' (first | with_reducible refine sw_in (by omega) ?_ | with_reducible (first | refine go1 ?_ | refine sct ?_ | refine scf ?_ | refine sgr ?_) | fail)
    refine sw_store ?_
    repeat' (first | with_reducible (first | refine go1 ?_ | refine sct ?_ | refine scf ?_ | refine sgr ?_) | fail)
    refine sw_call (dBarrier_any p s2) ?_
    rintro _ _ ⟨s3, e3, hB, rfl, rfl⟩
    repeat' (first | with_reducible (first | refine go1 ?_ | refine sct ?_ | refine scf ?_ | refine sgr ?_) | (with_reducible refine sc_cond (fun h => ?_) (fun h => ?_)) <;> (try (exfalso; first | contradiction | omega | exact h Iff.rfl)) | fail)
    · refine sq_ret2 Try.results13 ?_
      refine ⟨_, ⟨[], n + 1, false, s3, 0, e3, .inr ⟨s2, hW, hB, rfl, rfl, .inl ⟨h, rfl, rfl⟩⟩, rfl, rfl⟩, ?_⟩
      refine Ent.trans ?_ (WR.close hz)
      rw [nG_none]
      repeat' (first | with_reducible exact Ent.refl _ | with_reducible refine Ent.take_eq ?_ ?_ | rfl | with_reducible refine Ent.oR ?_ | with_reducible refine Ent.trans (oR.drop _ _ _) ?_ | with_reducible refine Ent.trans (Ent.drop _ _) ?_)
    have he : e3 = 0 := by omega
    subst he
    refine sw_store ?_
    repeat' (first | with_reducible (first | refine go1 ?_ | refine sct ?_ | refine scf ?_ | refine sgr ?_) | fail)
    refine sq_ret2 Try.results13 ?_
    refine ⟨_, ⟨[], n + 1, true, s3, n + 1, 0, .inr ⟨s2, hW, hB, rfl, rfl, .inr ⟨rfl, rfl, rfl⟩⟩, rfl, rfl⟩, ?_⟩
    refine Ent.trans ?_ (WR.close hz)
    rw [nG_none]
    repeat' (first | with_reducible exact Ent.refl _ | with_reducible refine Ent.take_eq ?_ ?_ | rfl | with_reducible refine Ent.oR ?_ | with_reducible refine Ent.trans (oR.drop _ _ _) ?_ | with_reducible refine Ent.trans (Ent.drop _ _) ?_)
end Go.Gsl

namespace Go.Gsl
set_option linter.unusedVariables false
open Go.Proofs

/-- pairs that lie for ever -/
def SpN (v : Value) (l : List Sp) : HProp := fun h => (v = .slice none 0 0 ∧ l = []) ∨ ∃ b c t, v = .slice (some ⟨b, 0, none⟩) l.length c ∧ l.length ≤ c ∧ imm b (.cells (spC l ++ t).toArray 50 (0, 0)) h
theorem SpN.one {v : Value} {l : List Sp} {h : Hp} (hs : SpN v l h) : v.oneCell' = true := by
  rcases hs with ⟨rfl, _⟩ | ⟨_, _, _, rfl, _⟩ <;> rfl
theorem SpN.left {v : Value} {l : List Sp} {x y : Hp} (h : SpN v l x) : SpN v l (hjoin x y) := by
  rcases h with h | ⟨b, c, t, h1, h2, h3⟩
  · exact .inl h
  · exact .inr ⟨b, c, t, h1, h2, imm_left h3⟩
theorem SpN.right {v : Value} {l : List Sp} {x y : Hp} (hd : hdisj x y) (h : SpN v l y) : SpN v l (hjoin x y) := by
  rcases h with h | ⟨b, c, t, h1, h2, h3⟩
  · exact .inl h
  · exact .inr ⟨b, c, t, h1, h2, imm_right hd h3⟩
theorem SpN.fp {v : Value} {l : List Sp} {h : Hp} (hs : SpN v l h) : SpN v l (fpart h) := by
  rcases hs with h | ⟨b, c, t, h1, h2, h3⟩
  · exact .inl h
  · exact .inr ⟨b, c, t, h1, h2, imm_fpart h3⟩
def BagS (L : List (Value × List Sp)) : HProp := fun h => ∀ p ∈ L, SpN p.1 p.2 h
theorem BagS.emp {F : List Res} (k : Nat) : Ent F ((k, BagS []) :: F) := fun h hh => ⟨fun _ => none, h, fun _ => .inl rfl, by funext i; simp [hjoin], fun p hp => (by cases hp), hh⟩
theorem BagS.fp {L : List (Value × List Sp)} {h : Hp} (hb : BagS L h) : BagS L (fpart h) := fun p hp => (hb p hp).fp
theorem BagS.two {k1 k2 : Nat} {A B : List (Value × List Sp)} {F : List Res} : Ent ((k1, BagS A) :: (k2, BagS B) :: F) ((k1, BagS (A ++ B)) :: F) :=
  Ent.join fun x y hd hx hy p hp => by
    rcases List.mem_append.1 hp with h | h
    · exact (hx p h).left
    · exact (hy p h).right hd
theorem BagS.rd {L : List (Value × List Sp)} {h : Hp} (hb : BagS L h) : ∀ p ∈ L, RdS (BagS L) p.1 p.2 := by
  intro p hp
  rcases hb p hp with ⟨h1, h2⟩ | ⟨b, c, t, h1, h2, _⟩
  · rw [h1, h2]; exact RdS.nil _
  · refine ⟨some ⟨b, 0, none⟩, c, h1, h2, fun _ => ⟨b, 0, rfl⟩, fun h' w hh hf j v hj => ?_⟩
    rcases hh p hp with ⟨h3, _⟩ | ⟨b', c', t', h3, _, hi⟩
    · rw [h1] at h3; cases h3
    · rw [h1] at h3
      simp only [Value.slice.injEq, Option.some.injEq, Addr.mk.injEq] at h3
      obtain ⟨⟨rfl, _⟩, _, _⟩ := h3
      refine ⟨_, rfl, cell_row (hf _ _ _ hi) ?_⟩
      rw [Nat.zero_add, List.getElem?_append_left (List.getElem?_eq_some_iff.1 hj).1]
      exact hj
/-- a row of one's own, held as it is from here on -/
theorem spN_own {w0 w : World} {l : List Sp} {q : Option (Nat × Nat × List Value)} (hq : NOk 3 (spC l) l.length q) {F : List Res} (k : Nat) (h : Sat w0 w (oR (SpG l) F q)) : Sat w0 w ((k, BagS [(nV l.length q, l)]) :: F) := by
  cases q with
  | none =>
    obtain ⟨_, h2⟩ := hq.2.1 rfl
    have h3 : l = [] := List.length_eq_zero_iff.1 h2
    subst h3
    refine Sat.ent h ?_
    intro x hx
    exact ⟨fun _ => none, x, fun _ => .inl rfl, by funext i; simp [hjoin], fun p hp => by rw [List.mem_singleton.1 hp]; exact .inl ⟨rfl, rfl⟩, hx⟩
  | some y =>
    obtain ⟨b, c, t⟩ := y
    refine ((Sat.freeze h (Take.here _ _ _)).ent (Ent.head fun x hx p hp => ?_))
    rw [List.mem_singleton.1 hp]
    exact .inr ⟨b, c, t, rfl, (hq.2.2 b c t rfl).1, hx⟩

theorem Ck.zero_chk : Ck.zero.chk = 0 ∧ Ck.zero.In := ⟨rfl, by unfold I64 Ck.zero; simp only; omega, fun x hx => by cases hx⟩
theorem takeCk_in {bs : List Int} (hb : Byt bs) (hl : bs.length ≤ 70368744177664) : (takeCk bs).1.chk = 0 ∧ (takeCk bs).1.In := by
  unfold takeCk
  split
  · exact Ck.zero_chk
  · rename_i h
    have h1 := numN_ok hb (st := (0, 0)) (Nat.zero_le _)
    have h2 := flagN_ok hb h1.1
    have h3 := manyN_ok hb h2 (most := 16) (by omega)
    have h4 := spsN_ok hb h3.1 (manyN 16 bs (nxt false takeFlag bs (nxt 0 takeInt bs (0, 0)).2).2).1.toNat
    refine ⟨?_, h1.2, fun x hx => ?_⟩
    · have h5 : endE bs.length (rawCk bs).1.chk (rawCk bs).2 = 0 := by omega
      unfold endE at h5
      split at h5
      · omega
      · split at h5
        · cases h5
        · exact h5
    · have := h4.2.2 x hx
      exact ⟨this.1, this.2.1, this.2.2.1, by omega, by omega⟩
theorem readCk_in {bs : List Int} (hb : Byt bs) (hl : bs.length ≤ 70368744177664) (n : Int) : (readCk n bs).1.chk = 0 ∧ (readCk n bs).1.In := by
  unfold readCk
  split
  · exact Ck.zero_chk
  · rename_i h
    obtain ⟨K, N, e1, e2, e3⟩ := unfr_ok hb (by omega)
    have hub : Byt (unfr bs).2.1 := by rw [e1]; exact hb.sub _ _
    have hul : (unfr bs).2.1.length ≤ bs.length := by rw [e1, List.length_take, List.length_drop]; omega
    split
    · exact Ck.zero_chk
    · exact takeCk_in hub (by omega)
theorem readA_in {s : Dk} (hw : s.Wf) (f n i : Int) : (readA s f n i).1.chk = 0 ∧ (readA s f n i).1.In := by
  unfold readA
  split
  · exact Ck.zero_chk
  · rename_i h
    have ha : areaE f n s.sure.length = 0 := by omega
    have ha2 : 0 ≤ f ∧ 1 ≤ n ∧ n ≤ 4096 ∧ n * 12 ≤ s.sure.length - f := by unfold areaE at ha; split at ha <;> omega
    split
    · exact Ck.zero_chk
    · split
      · exact Ck.zero_chk
      · have := catS_byt hw (a := f + i * 12) (by omega) 12 (by omega)
        exact readCk_in this.1 (by omega) _

/-- the first error of so many chunks -/
def rdErr (s : Dk) (f n : Int) : Nat → Int
  | 0 => 0
  | i + 1 => if rdErr s f n i ≠ 0 then rdErr s f n i else (readA s f n i).2
/-- what Load makes of a disk -/
def loadA (s : Dk) (f n k : Int) : List Sp × Int :=
  if areaE f n s.sure.length ≠ 0 then ([], areaE f n s.sure.length) else if k < 1 ∨ n < k then ([], 191) else if rdErr s f n k.toNat ≠ 0 then ([], rdErr s f n k.toNat)
  else match loadL k.toNat 0 [] ((List.range k.toNat).map fun i : Nat => (readA s f n i).1) with
    | none => ([], 191)
    | some l => (l, 0)
theorem rdErr_some {s : Dk} {f n : Int} {i : Nat} (h : rdErr s f n i ≠ 0) : ∀ {j : Nat}, i ≤ j → rdErr s f n j = rdErr s f n i
  | 0, hj => by rw [show i = 0 by omega]
  | j + 1, hj => by
    rcases Nat.lt_or_ge j i with h1 | h1
    · rw [show i = j + 1 by omega]
    · have := rdErr_some h (j := j) h1
      show (if rdErr s f n j ≠ 0 then rdErr s f n j else (readA s f n j).2) = _
      rw [this, if_pos h]
/-- a row of chunks -/
def ckAll (ms : List (Ck × Value)) : List Value := ms.flatMap fun x => ckV x.1.num x.2 x.1.last
theorem ckAll_snoc (ms : List (Ck × Value)) (m : Ck × Value) : ckAll (ms ++ [m]) = ckAll ms ++ ckV m.1.num m.2 m.1.last := by unfold ckAll; rw [List.flatMap_append]; simp
theorem ckAll_drop : ∀ (l : List (Ck × Value)) (k : Nat), (ckAll l).drop (k * 3) = ckAll (l.drop k)
  | l, 0 => by simp
  | [], k + 1 => by simp [ckAll]
  | x :: l, k + 1 => by
    rw [List.drop_succ_cons, ← ckAll_drop l k, show (k + 1) * 3 = 3 + k * 3 by omega, ← List.drop_drop]
    rfl
theorem ckAll_elem {l : List (Ck × Value)} {i : Nat} (h : i < l.length) : ((ckAll l).drop (i * 3)).take 3 = ckV l[i].1.num l[i].2 l[i].1.last := by
  rw [ckAll_drop, List.drop_eq_getElem_cons h]
  rfl
def ckBag (ms : List (Ck × Value)) : List (Value × List Sp) := ms.map fun x => (x.2, x.1.l)
theorem ckBag_snoc (ms : List (Ck × Value)) (m : Ck × Value) : ckBag (ms ++ [m]) = ckBag ms ++ [(m.2, m.1.l)] := by unfold ckBag; rw [List.map_append]; rfl
theorem ckV_one {n : Int} {v : Value} {y : Bool} (h : v.oneCell' = true) : ∀ u ∈ ckV n v y, u.oneCell' = true := by
  intro u hu
  simp only [List.mem_cons, List.mem_nil_iff, or_false] at hu
  rcases hu with rfl | rfl | rfl
  · rfl
  · exact h
  · rfl
instance (priority := 20) TakeO.nil {α : Type} (Rs : List Res) (g : α → Res) : TakeO Rs g none Rs := ⟨Ent.refl _, Ent.refl _⟩
end Go.Gsl

namespace Go.Gsl
set_option linter.unusedVariables false
open Go.Proofs

/-- Read, its pairs being held for ever -/
theorem ckRead_fr (p : Nat) (s : Dk) (f n i : Int) (hf : I64 f) (hn : I64 n) (hi : I64 i) :
    Spec Try.prog 9 [.pointer (some ⟨p, 0, none⟩), .agg [.int .i64 f, .int .i64 n].toArray, .int .i64 i] [p] [DISK p s]
    fun F w Rs' => ∃ v, v.oneCell' = true ∧ w = .tuple #[.agg (ckV (readA s f n i).1.num v (readA s f n i).1.last).toArray, .int .i64 (readA s f n i).2] ∧ Rs' = (7102, BagS [(v, (readA s f n i).1.l)]) :: (p, DISK p s) :: F := by
  intro w0 F w hw
  refine Calls.mono (ckRead_ok p s f n i hf hn hi w0 F w hw) ?_
  rintro x w' ⟨v, Rs', rfl, ⟨q, hq, rfl, rfl⟩, hw'⟩
  exact ⟨_, _, rfl, ⟨_, by cases q <;> rfl, rfl, rfl⟩, spN_own hq 7102 hw'⟩

theorem clash_nil_r (out : List Sp) : clash out [] = false := by unfold clash; simp
theorem clash_nil_l (l : List Sp) : clash [] l = false := by unfold clash; simp
theorem clash_cons {out l : List Sp} (h : 0 < out.length) (h2 : 0 < l.length) : clash out l = !lessB out[out.length - 1].key l[0].key := by
  have h3 : out.getLast? = some out[out.length - 1] := by rw [List.getLast?_eq_getElem?, List.getElem?_eq_getElem]
  have h4 : l.head? = some l[0] := by rw [List.head?_eq_getElem?, List.getElem?_eq_getElem]
  unfold clash
  rw [h3, h4]
theorem loadL_step {K n : Nat} {out : List Sp} {cs : List Ck} {c : Ck} {i : Nat} (h : cs[i]? = some c) : loadL K n out (cs.drop i) = if c.last ≠ decide (n + 1 = K) ∨ clash out c.l = true then none else loadL K (n + 1) (out ++ c.l) (cs.drop (i + 1)) := by
  obtain ⟨h1, h2⟩ := List.getElem?_eq_some_iff.1 h
  rw [List.drop_eq_getElem_cons h1, h2]
  rfl


set_option maxHeartbeats 4000000 in
theorem ckLoad_ok (p : Nat) (s : Dk) (f n k : Int) (hf : I64 f) (hn : I64 n) (hk : I64 k) :
    Spec Try.prog 10 [.pointer (some ⟨p, 0, none⟩), .agg [.int .i64 f, .int .i64 n].toArray, .int .i64 k] [p] [DISK p s]
    fun F w Rs' => ∃ q, NOk 3 (spC (loadA s f n k).1) (loadA s f n k).1.length q ∧ w = .tuple #[nV (loadA s f n k).1.length q, .int .i64 (loadA s f n k).2] ∧ Rs' = oR (SpG (loadA s f n k).1) ((p, DISK p s) :: F) q := by
  refine spec_of Try.func10 rfl Try.ntmps10 rfl ?_
  intro w0 F
  refine DISK.scwf (p := p) (s := s) fun hwf => ?_
  have h1 := hwf.n1
  have h2 := hwf.n2
  have hz : NOk 3 (spC []) ([] : List Sp).length none := ⟨rfl, fun _ => ⟨rfl, rfl⟩, fun b c t h => (by cases h)⟩
  have hf9 := hf
  have hn9 := hn
  have hk9 := hk
  unfold I64 at hf9 hn9 hk9
  have hrin := fun i => readA_in hwf f n i
  unfold loadA
  repeat' (first | with_reducible (first | refine go1 ?_ | refine sct ?_ | refine scf ?_ | refine sgr ?_) | fail)
  refine sw_box fun b4 => ?_
  repeat' (first | with_reducible (first | refine go1 ?_ | refine sct ?_ | refine scf ?_ | refine sgr ?_) | ((with_reducible refine sw_call (ckOn_ok p s hwf f n hf hn) ?_); rintro _ _ ⟨rfl, rfl⟩) | (with_reducible refine sc_cond (fun h => ?_) (fun h => ?_)) <;> (try (exfalso; first | contradiction | omega | exact h Iff.rfl)) | fail)
  · rw [if_pos h]
    refine sq_ret2 Try.results10 ?_
    refine ⟨_, ⟨none, hz, rfl, rfl⟩, ?_⟩
    rw [nG_none]
    repeat' (first | with_reducible exact Ent.refl _ | with_reducible refine Ent.take_eq ?_ ?_ | rfl | with_reducible refine Ent.oR ?_ | with_reducible refine Ent.trans (oR.drop _ _ _) ?_ | with_reducible refine Ent.trans (Ent.drop _ _) ?_)
  have ha : areaE f n s.sure.length = 0 := by omega
  have ha2 : 0 ≤ f ∧ 1 ≤ n ∧ n ≤ 4096 ∧ n * 12 ≤ s.sure.length - f := by unfold areaE at ha; split at ha <;> omega
  rw [if_neg (by omega)]
  repeat' (first | with_reducible (first | refine go1 ?_ | refine sct ?_ | refine scf ?_ | refine sgr ?_) | with_reducible refine sw_guard_skip_u ?_ | (with_reducible refine sc_cond (fun h => ?_) (fun h => ?_)) <;> (try (exfalso; first | contradiction | omega | exact h Iff.rfl)) | (with_reducible refine sw_guard_split (fun h => ?_) (fun h => ?_)) <;> (try (exfalso; first | contradiction | omega | exact h Iff.rfl)) | (with_reducible refine sw_pick (fun h => ?_) (fun h => ?_)) <;> (try (exfalso; first | contradiction | omega | exact h Iff.rfl)) | fail)
  iterate 2
    · rw [if_pos (by omega)]
      refine sq_ret2 Try.results10 ?_
      refine ⟨_, ⟨none, hz, rfl, rfl⟩, ?_⟩
      rw [nG_none]
      repeat' (first | with_reducible exact Ent.refl _ | with_reducible refine Ent.take_eq ?_ ?_ | rfl | with_reducible refine Ent.oR ?_ | with_reducible refine Ent.trans (oR.drop _ _ _) ?_ | with_reducible refine Ent.trans (Ent.drop _ _) ?_)
  rw [if_neg (by omega)]
  have hkr : 1 ≤ k ∧ k ≤ n := by omega
  obtain ⟨K, hK⟩ : ∃ K : Nat, k = K := ⟨k.toNat, by omega⟩
  subst hK
  rw [Int.toNat_natCast]
  refine sc_loop (α := { x : List (Ck × Value) × Option (Nat × Nat × List Value) // NOk 3 (ckAll x.1) x.1.length x.2 ∧ x.1.length ≤ K ∧ (∀ y ∈ x.1, y.2.oneCell' = true) ∧ x.1.map Prod.fst = (List.range x.1.length).map (fun i : Nat => (readA s f n i).1) ∧ rdErr s f n x.1.length = 0 })
    (fun x => [(0, .pointer (some ⟨p, 0, none⟩)), (2, .int .i64 (K : Int)), (4, .pointer (some ⟨b4, 0, none⟩)), (9, nV x.1.1.length x.1.2), (30, .int .i64 (K : Int)), (31, .int .i64 (x.1.1.length : Int))])
    (fun x => oR (nG 28 (ckAll x.1.1)) ((7101, BagS (ckBag x.1.1)) :: (b4, pts b4 (.cells [.int .i64 f, .int .i64 n].toArray 23 (0, 0))) :: (p, DISK p s) :: F) x.1.2) (fun x => K - x.1.1.length) ⟨([], none), ⟨rfl, fun _ => ⟨rfl, rfl⟩, fun b c t h => (by cases h)⟩, Nat.zero_le _, fun y hy => (by cases hy), rfl, rfl⟩ ?_ ?_ ?_
  · repeat' (first | exact says_nil | refine says_cons rfl ?_ | refine says_cons (by simp) ?_)
  · refine Ent.trans (BagS.emp 7101) ?_
    show Ent _ ((7101, BagS (ckBag [])) :: (b4, pts b4 (.cells [.int .i64 f, .int .i64 n].toArray 23 (0, 0))) :: (p, DISK p s) :: F)
    repeat' (first | with_reducible exact Ent.refl _ | with_reducible refine Ent.take_eq ?_ ?_ | rfl | with_reducible refine Ent.oR ?_ | with_reducible refine Ent.trans (oR.drop _ _ _) ?_ | with_reducible refine Ent.trans (Ent.drop _ _) ?_)
  rintro ⟨⟨ms, o⟩, hx⟩ e
  obtain ⟨ho, hmk, hone, hmap, her⟩ := hx
  (try simp only at ho hmk hone hmap her)
  simp only [List.cons_append, List.nil_append]
  repeat' (first | with_reducible refine sw_in (by omega) ?_ | with_reducible (first | refine go1 ?_ | refine sct ?_ | refine scf ?_ | refine sgr ?_) | (with_reducible refine sc_cond (fun h => ?_) (fun h => ?_)) <;> (try (exfalso; first | contradiction | omega | exact h Iff.rfl)) | fail)
  · have hlt : ms.length < K := by omega
    refine sw_call (ckRead_fr p s f n ms.length hf hn (by unfold I64; omega)) ?_
    rintro _ _ ⟨v, hv1, rfl, rfl⟩
    have hv1' : One v := ⟨hv1⟩
    have hre : rdErr s f n (ms.length + 1) = (readA s f n ms.length).2 := by
      show (if rdErr s f n ms.length ≠ 0 then _ else _) = _
      rw [if_neg (by omega)]
    have hci := hrin (ms.length : Int)
    generalize hR : readA s f n (ms.length : Int) = R at *
    obtain ⟨c, er⟩ := R
    simp only at hre hci ⊢
    repeat' (first | with_reducible (first | refine go1 ?_ | refine sct ?_ | refine scf ?_ | refine sgr ?_) | fail)
    refine sw_alloc fun b11 => ?_
    refine sw_store_agg ?_
    repeat' (first | with_reducible (first | refine go1 ?_ | refine sct ?_ | refine scf ?_ | refine sgr ?_) | (with_reducible refine sc_cond (fun h => ?_) (fun h => ?_)) <;> (try (exfalso; first | contradiction | omega | exact h Iff.rfl)) | fail)
    · have hre2 := rdErr_some (by rw [hre]; exact h) (j := K) (by omega)
      rw [hre2, hre, if_pos h]
      refine sq_ret2 Try.results10 ?_
      refine ⟨_, ⟨none, hz, rfl, rfl⟩, ?_⟩
      rw [nG_none]
      repeat' (first | with_reducible exact Ent.refl _ | with_reducible refine Ent.take_eq ?_ ?_ | rfl | with_reducible refine Ent.oR ?_ | with_reducible refine Ent.trans (oR.drop _ _ _) ?_ | with_reducible refine Ent.trans (Ent.drop _ _) ?_)
    · refine sw_buildSliceN (ckV c.num v c.last) ⟨by omega, by omega, by omega⟩ (by kernel_rfl) fun b12 => ?_
      refine sw_appendNV (nb := 40) (ckAll ms) (ckV c.num v c.last) ms.length o ho (ckV_one hv1) rfl (by omega) ⟨rfl, by omega, by omega⟩ fun o2 hne ho2 => ?_
      have hsn : ckAll ms ++ ckV c.num v c.last = ckAll (ms ++ [(c, v)]) := (ckAll_snoc ms (c, v)).symm
      have hln : ms.length + 1 = (ms ++ [(c, v)]).length := by simp
      rw [hsn] at ho2 ⊢
      rw [hln] at ho2 ⊢
      repeat' (first | with_reducible refine sw_in (by omega) ?_ | with_reducible (first | refine go1 ?_ | refine sct ?_ | refine scf ?_ | refine sgr ?_) | fail)
      refine sq_round ⟨(ms ++ [(c, v)], o2), ho2, by simp only; omega, fun y hy => ?_, ?_, ?_⟩ ?_ ?_ ?_
      · rcases List.mem_append.1 hy with hy | hy
        · exact hone y hy
        · rw [List.mem_singleton.1 hy]; exact hv1
      · simp only
        rw [List.map_append, ← hln, List.range_succ, List.map_append, hmap]
        simp only [List.map_cons, List.map_nil, hR]
      · simp only
        rw [← hln, hre]
        omega
      · show K - (ms ++ [(c, v)]).length < K - ms.length
        omega
      · simp only [← hln]
        repeat' (first | exact says_nil | refine says_cons rfl ?_ | refine says_cons (by simp) ?_)
      · refine Ent.trans (Ent.trans (Ent.take (k := 7101) (r' := BagS _) (fun _ h => h) (Ent.take (k := 7102) (r' := BagS _) (fun _ h => h) (Ent.refl _))) BagS.two) ?_
        simp only [ckBag_snoc]
        repeat' (first | with_reducible exact Ent.refl _ | with_reducible refine Ent.take_eq ?_ ?_ | rfl | with_reducible refine Ent.oR ?_ | with_reducible refine Ent.trans (oR.drop _ _ _) ?_ | with_reducible refine Ent.trans (Ent.drop _ _) ?_)
  · have hmK : ms.length = K := by omega
    obtain ⟨⟨b9, c9, t9⟩, rfl⟩ : ∃ y, o = some y := by
      cases o with
      | none => have := (ho.2.1 rfl).2; omega
      | some y => exact ⟨y, rfl⟩
    rw [nG_some, show nV ms.length (some (b9, c9, t9)) = .slice (some ⟨b9, 0, none⟩) ms.length c9 from rfl]
    rw [hmK] at her hmap
    rw [if_neg (by omega), ← hmap]
    have hck : ∀ y ∈ ms, y.1.chk = 0 ∧ y.1.In := by
      intro y hy
      have : y.1 ∈ ms.map Prod.fst := List.mem_map.2 ⟨y, hy, rfl⟩
      rw [hmap] at this
      obtain ⟨j, _, hj⟩ := List.mem_map.1 this
      rw [← hj]
      exact hrin _
    have hrL : Reads (pts b9 (.cells (ckAll ms ++ t9).toArray 28 (0, 0))) (some ⟨b9, 0, none⟩) (ckAll ms) := reads_own
    refine sw_opn (k := 7101) (r := BagS (ckBag ms)) (α := Unit) (fun _ => ∀ p ∈ ckBag ms, RdS (BagS (ckBag ms)) p.1 p.2) (fun _ => BagS (ckBag ms)) (fun x hx => ⟨(), hx.rd, hx⟩) fun _ hrd => ?_
    clear hmap her hrin
    repeat' (first | with_reducible (first | refine go1 ?_ | refine sct ?_ | refine scf ?_ | refine sgr ?_) | fail)
    refine sc_loop (α := { x : List Sp × Nat × Option (Nat × Nat × List Value) // NOk 3 (spC x.1) x.1.length x.2.2 ∧ x.2.1 ≤ K ∧ x.1.length ≤ 16 * x.2.1 ∧ SpsB x.1 ∧ loadL K 0 [] (ms.map Prod.fst) = loadL K x.2.1 x.1 ((ms.map Prod.fst).drop x.2.1) })
      (fun x => [(2, .int .i64 (K : Int)), (13, nV x.1.1.length x.1.2.2), (49, .slice (some ⟨b9, 0, none⟩) ms.length c9), (50, .int .i64 (ms.length : Int)), (51, .int .i64 (x.1.2.1 : Int))])
      (fun x => oR (SpG x.1.1) ((b9, pts b9 (.cells (ckAll ms ++ t9).toArray 28 (0, 0))) :: (7101, BagS (ckBag ms)) :: (p, DISK p s) :: F) x.1.2.2) (fun x => K - x.1.2.1) ⟨([], 0, none), hz, Nat.zero_le _, Nat.zero_le _, fun y hy => (by cases hy), by rw [List.drop_zero]⟩ ?_ ?_ ?_
    · repeat' (first | exact says_nil | refine says_cons rfl ?_ | refine says_cons (by simp) ?_)
    · show Ent _ ((b9, pts b9 (.cells (ckAll ms ++ t9).toArray 28 (0, 0))) :: (7101, BagS (ckBag ms)) :: (p, DISK p s) :: F)
      repeat' (first | with_reducible exact Ent.refl _ | with_reducible refine Ent.take_eq ?_ ?_ | rfl | with_reducible refine Ent.oR ?_ | with_reducible refine Ent.trans (oR.drop _ _ _) ?_ | with_reducible refine Ent.trans (Ent.drop _ _) ?_)
    rintro ⟨⟨out, i, o3⟩, hx⟩ e
    obtain ⟨ho3, hi, hol, hob, hld⟩ := hx
    (try simp only at ho3 hi hol hob hld)
    simp only [List.cons_append, List.nil_append]
    repeat' (first | with_reducible refine sw_in (by omega) ?_ | with_reducible (first | refine go1 ?_ | refine sct ?_ | refine scf ?_ | refine sgr ?_) | (with_reducible refine sc_cond (fun h => ?_) (fun h => ?_)) <;> (try (exfalso; first | contradiction | omega | exact h Iff.rfl)) | fail)
    · have hi2 : i < ms.length := by omega
      have hst := loadL_step (K := K) (n := i) (out := out) (cs := ms.map Prod.fst) (i := i) (c := ms[i].1) (by rw [List.getElem?_map, List.getElem?_eq_getElem hi2]; rfl)
      have hld2 := hld.trans hst
      clear hst
      have hel := ckAll_elem hi2
      have hmem := List.getElem_mem hi2
      have h1c := hone _ hmem
      have hcc := hck _ hmem
      have hrdi := hrd (ms[i].2, ms[i].1.l) (List.mem_map.2 ⟨ms[i], hmem, rfl⟩)
      generalize ms[i] = y at *
      obtain ⟨⟨nu, la, l1⟩, v⟩ := y
      simp only at hld2 hel h1c hcc hrdi
      have hv1' : One v := ⟨h1c⟩
      have hl16 := (Ck.chk_ok hcc.1).2.1
      have hlb : SpsB l1 := fun x hx => ⟨(hcc.2.2 x hx).1, (hcc.2.2 x hx).2.1⟩
      refine sw_indexN i ⟨rfl, hi2⟩ ?_
      refine sw_load_aggR b9 (i * 3) (ckV nu v la) hrL rfl hel rfl ?_
      refine sw_alloc fun b15 => ?_
      repeat' (first | with_reducible (first | refine go1 ?_ | refine sct ?_ | refine scf ?_ | refine sgr ?_) | fail)
      refine sw_store_agg ?_
      repeat' (first | with_reducible (first | refine go1 ?_ | refine sct ?_ | refine scf ?_ | refine sgr ?_) | fail)
      obtain ⟨a, cv, rfl, hcv, hsome, hrv⟩ := hrdi
      have hlast : (la = true ↔ (i : Int) = (K : Int) - 1) ↔ la = decide (i + 1 = K) := by
        have : (i : Int) = (K : Int) - 1 ↔ i + 1 = K := by omega
        rw [this]
        cases la <;> simp
      rcases Nat.eq_zero_or_pos l1.length with hl0 | hl0
      · have hl1 : l1 = [] := List.length_eq_zero_iff.1 hl0
        have hcl : clash out l1 = false := by rw [hl1]; exact clash_nil_r _
        rw [hcl] at hld2
        cases o3 with
        | none =>
          have ho0 := (ho3.2.1 rfl).2
          have ho1 : out = [] := List.length_eq_zero_iff.1 ho0
          subst ho1
          rw [nG_none, show nV ([] : List Sp).length none = .slice none 0 0 from rfl]
          refine sc_lin ([(b15, pts b15 (.cells (ckV nu (.slice a l1.length cv) la).toArray 28 (0, 0))), (7101, BagS (ckBag ms))]) (llp 0 (llp 1 (llp 2 (llp 3 (llp 4 (llp 5 (llp 6 (llp 7 (llp 8 (llp 9 (llp 10 (llp 11 (llp 12 (llp 13 (llp 14 (llp 15 (llp 16 (llp 17 (llp 18 (llp 19 (llp 20 (llp 21 (llp 22 (llp 23 (llp 24 (llp 25 (llp 26 (llp 27 (llp 28 (llp 29 (llp 30 (llp 31 (llp 32 ll0))))))))))))))))))))))))))))))))) (by kernel_rfl) rfl (by kernel_rfl) ?_
          all_goals (iterate 4 refine go1l ?_)
          all_goals (first | refine sl_in (by omega) ?_ | refine go1l ?_)
          all_goals (iterate 3 refine go1l ?_)
          all_goals (first | refine go1l ?_ | ((refine sl_split 63 (fun h => ?_) (fun h => ?_)) <;> (try (exfalso; first | contradiction | omega | exact h Iff.rfl)) <;> refine go1l ?_))
          all_goals (first | refine go1l ?_ | ((refine sl_split 63 (fun h => ?_) (fun h => ?_)) <;> (try (exfalso; first | contradiction | omega | exact h Iff.rfl)) <;> refine go1l ?_))
          all_goals (first | refine go1l ?_ | ((refine sl_split 63 (fun h => ?_) (fun h => ?_)) <;> (try (exfalso; first | contradiction | omega | exact h Iff.rfl)) <;> refine go1l ?_))
          all_goals (first | refine go1l ?_ | ((refine sl_split 63 (fun h => ?_) (fun h => ?_)) <;> (try (exfalso; first | contradiction | omega | exact h Iff.rfl)) <;> refine go1l ?_))
          all_goals (first | refine go1l ?_ | ((refine sl_split 63 (fun h => ?_) (fun h => ?_)) <;> (try (exfalso; first | contradiction | omega | exact h Iff.rfl)) <;> refine go1l ?_))
          all_goals (first | refine go1l ?_ | ((refine sl_split 68 (fun h => ?_) (fun h => ?_)) <;> (try (exfalso; first | contradiction | omega | exact h Iff.rfl)) <;> refine go1l ?_))
          all_goals (first | refine go1l ?_ | ((refine sl_split 68 (fun h => ?_) (fun h => ?_)) <;> (try (exfalso; first | contradiction | omega | exact h Iff.rfl)) <;> refine go1l ?_))
          all_goals (first | refine go1l ?_ | ((refine sl_split 68 (fun h => ?_) (fun h => ?_)) <;> (try (exfalso; first | contradiction | omega | exact h Iff.rfl)) <;> refine go1l ?_))
          all_goals (first | refine go1l ?_ | ((refine sl_split 63 (fun h => ?_) (fun h => ?_)) <;> (try (exfalso; first | contradiction | omega | exact h Iff.rfl)) <;> refine go1l ?_))
          all_goals (first | refine go1l ?_ | ((refine sl_split 63 (fun h => ?_) (fun h => ?_)) <;> (try (exfalso; first | contradiction | omega | exact h Iff.rfl)) <;> refine go1l ?_))
          all_goals (first | refine go1l ?_ | ((refine sl_split 73 (fun h => ?_) (fun h => ?_)) <;> (try (exfalso; first | contradiction | omega | exact h Iff.rfl)) <;> refine go1l ?_))
          all_goals (first | refine go1l ?_ | ((refine sl_split 73 (fun h => ?_) (fun h => ?_)) <;> (try (exfalso; first | contradiction | omega | exact h Iff.rfl)) <;> refine go1l ?_))
          all_goals (first | (first | refine sl_skip ?_ | refine sl_skip_u ?_ | refine sl_take_g (h := runop_indexN 0 ⟨rfl, by omega⟩) ?_) | ((refine sl_split 73 (fun h => ?_) (fun h => ?_)) <;> (try (exfalso; first | contradiction | omega | exact h Iff.rfl)) <;> (first | refine sl_skip ?_ | refine sl_skip_u ?_ | refine sl_take_g (h := runop_indexN 0 ⟨rfl, by omega⟩) ?_)))
          all_goals (first | refine go1l ?_ | ((refine sl_split 73 (fun h => ?_) (fun h => ?_)) <;> (try (exfalso; first | contradiction | omega | exact h Iff.rfl)) <;> refine go1l ?_))
          all_goals (first | (first | refine sl_skip ?_ | refine sl_skip_u ?_ | refine sl_take_g (h := runop_load_rdS 7101 0 (.string (strB l1[0].key)) hrv (spC_key (i := 0) (by omega)) rfl) ?_) | ((refine sl_split 73 (fun h => ?_) (fun h => ?_)) <;> (try (exfalso; first | contradiction | omega | exact h Iff.rfl)) <;> (first | refine sl_skip ?_ | refine sl_skip_u ?_ | refine sl_take_g (h := runop_load_rdS 7101 0 (.string (strB l1[0].key)) hrv (spC_key (i := 0) (by omega)) rfl) ?_)))
          all_goals (first | refine go1l ?_ | ((refine sl_split 73 (fun h => ?_) (fun h => ?_)) <;> (try (exfalso; first | contradiction | omega | exact h Iff.rfl)) <;> refine go1l ?_))
          all_goals (first | refine go1l ?_ | ((refine sl_split 73 (fun h => ?_) (fun h => ?_)) <;> (try (exfalso; first | contradiction | omega | exact h Iff.rfl)) <;> refine go1l ?_))
          all_goals (first | refine go1l ?_ | ((refine sl_split 73 (fun h => ?_) (fun h => ?_)) <;> (try (exfalso; first | contradiction | omega | exact h Iff.rfl)) <;> refine go1l ?_))
          all_goals (first | (first | refine sl_in_g (by omega) ?_ | refine go1l ?_) | ((refine sl_split 73 (fun h => ?_) (fun h => ?_)) <;> (try (exfalso; first | contradiction | omega | exact h Iff.rfl)) <;> (first | refine sl_in_g (by omega) ?_ | refine go1l ?_)))
          all_goals (first | (first | refine sl_skip ?_ | refine sl_skip_u ?_ | refine sl_take_g (h := runop_indexN (out.length - 1) ⟨by omega, by omega⟩) ?_) | ((refine sl_split 73 (fun h => ?_) (fun h => ?_)) <;> (try (exfalso; first | contradiction | omega | exact h Iff.rfl)) <;> (first | refine sl_skip ?_ | refine sl_skip_u ?_ | refine sl_take_g (h := runop_indexN (out.length - 1) ⟨by omega, by omega⟩) ?_)))
          all_goals (first | refine go1l ?_ | ((refine sl_split 73 (fun h => ?_) (fun h => ?_)) <;> (try (exfalso; first | contradiction | omega | exact h Iff.rfl)) <;> refine go1l ?_))
          all_goals (first | (first | refine sl_skip ?_ | refine sl_skip_u ?_ | refine sl_take_g (h := runop_load_rdS b3 ((out.length - 1) * 3) (.string (strB out[out.length - 1].key)) hro (spC_key (i := out.length - 1) (by omega)) rfl) ?_) | ((refine sl_split 73 (fun h => ?_) (fun h => ?_)) <;> (try (exfalso; first | contradiction | omega | exact h Iff.rfl)) <;> (first | refine sl_skip ?_ | refine sl_skip_u ?_ | refine sl_take_g (h := runop_load_rdS b3 ((out.length - 1) * 3) (.string (strB out[out.length - 1].key)) hro (spC_key (i := out.length - 1) (by omega)) rfl) ?_)))
          all_goals (first | (first | refine sl_skip ?_ | refine sl_skip_u ?_ | refine sl_take_g (h := runop_sleq (hlb _ (List.getElem_mem _)).1 (hob _ (List.getElem_mem _)).1) ?_) | ((refine sl_split 73 (fun h => ?_) (fun h => ?_)) <;> (try (exfalso; first | contradiction | omega | exact h Iff.rfl)) <;> (first | refine sl_skip ?_ | refine sl_skip_u ?_ | refine sl_take_g (h := runop_sleq (hlb _ (List.getElem_mem _)).1 (hob _ (List.getElem_mem _)).1) ?_)))
          all_goals (first | refine go1l ?_ | ((refine sl_split 63 (fun h => ?_) (fun h => ?_)) <;> (try (exfalso; first | contradiction | omega | exact h Iff.rfl)) <;> refine go1l ?_))
          all_goals (first | refine go1l ?_ | ((refine sl_split 63 (fun h => ?_) (fun h => ?_)) <;> (try (exfalso; first | contradiction | omega | exact h Iff.rfl)) <;> refine go1l ?_))
          all_goals refine sl_done ?_
          all_goals (repeat' (first | with_reducible (first | refine go1 ?_ | refine sct ?_ | refine scf ?_ | refine sgr ?_) | (with_reducible refine sc_cond (fun h => ?_) (fun h => ?_)) <;> (try (exfalso; first | contradiction | omega | exact h Iff.rfl)) | fail))
          
          all_goals first
          | (rw [if_pos (by
               first
               | exact .inl (fun h9 => absurd (hlast.2 h9) (show ¬ (la = true ↔ (i : Int) = (K : Int) - 1) from by assumption))
               | exact .inr (by simp [*]))] at hld2
             refine sq_ret2 Try.results10 ?_
             rw [hld2]
             refine ⟨_, ⟨none, hz, rfl, rfl⟩, ?_⟩
             rw [nG_none]
             repeat' (first | with_reducible exact Ent.refl _ | with_reducible refine Ent.take_eq ?_ ?_ | rfl | with_reducible refine Ent.oR ?_ | with_reducible refine Ent.trans (oR.drop _ _ _) ?_ | with_reducible refine Ent.trans (Ent.drop _ _) ?_)
             done)
          | (rw [if_neg (by
               intro h9
               rcases h9 with h9 | h9
               · exact h9 (hlast.1 (Classical.not_not.1 (show ¬¬ (la = true ↔ (i : Int) = (K : Int) - 1) from by assumption)))
               · first | (simp at h9; done) | (have h8 := Classical.not_not.1 h; rw [h8] at h9; cases h9))] at hld2
             refine sw_appendNVR (nb := 40) (spC ([])) (spC l1) ([]).length none ho3 (fun w hw => hrv.sat (k := 7101) hw) spC_one rfl (by omega) ⟨spC_len l1, by simp only [List.length_nil] at *; omega, by simp only [List.length_nil] at *; omega⟩ fun o4 ho4 => ?_
             rw [← spC_app, ← List.length_append] at ho4
             rw [← spC_app, ← List.length_append]
             repeat' (first | with_reducible refine sw_in (by omega) ?_ | with_reducible (first | refine go1 ?_ | refine sct ?_ | refine scf ?_ | refine sgr ?_) | fail)
             refine sq_round ⟨(([]) ++ l1, i + 1, o4), ho4, by simp only; omega, by simp only [List.length_append, List.length_nil] at *; omega, fun x hx => (List.mem_append.1 hx).elim (hob x) (hlb x), hld2⟩ ?_ ?_ ?_
             · show K - (i + 1) < K - i
               omega
             · repeat' (first | exact says_nil | refine says_cons rfl ?_ | refine says_cons (by simp) ?_)
             · repeat' (first | with_reducible exact Ent.refl _ | with_reducible refine Ent.take_eq ?_ ?_ | rfl | with_reducible refine Ent.oR ?_ | with_reducible refine Ent.trans (oR.drop _ _ _) ?_ | with_reducible refine Ent.trans (Ent.drop _ _) ?_)
             done)
        | some y3 => 
          obtain ⟨b3, c3, t3⟩ := y3
          rw [nG_some, show nV out.length (some (b3, c3, t3)) = .slice (some ⟨b3, 0, none⟩) out.length c3 from rfl]
          refine sc_lin ([(b15, pts b15 (.cells (ckV nu (.slice a l1.length cv) la).toArray 28 (0, 0))), (7101, BagS (ckBag ms)), (b3, pts b3 (.cells (spC out ++ t3).toArray 50 (0, 0)))]) (llp 0 (llp 1 (llp 2 (llp 3 (llp 4 (llp 5 (llp 6 (llp 7 (llp 8 (llp 9 (llp 10 (llp 11 (llp 12 (llp 13 (llp 14 (llp 15 (llp 16 (llp 17 (llp 18 (llp 19 (llp 20 (llp 21 (llp 22 (llp 23 (llp 24 (llp 25 (llp 26 (llp 27 (llp 28 (llp 29 (llp 30 (llp 31 (llp 32 ll0))))))))))))))))))))))))))))))))) (by kernel_rfl) rfl (by kernel_rfl) ?_
          all_goals (iterate 4 refine go1l ?_)
          all_goals (first | refine sl_in (by omega) ?_ | refine go1l ?_)
          all_goals (iterate 3 refine go1l ?_)
          all_goals (first | refine go1l ?_ | ((refine sl_split 63 (fun h => ?_) (fun h => ?_)) <;> (try (exfalso; first | contradiction | omega | exact h Iff.rfl)) <;> refine go1l ?_))
          all_goals (first | refine go1l ?_ | ((refine sl_split 63 (fun h => ?_) (fun h => ?_)) <;> (try (exfalso; first | contradiction | omega | exact h Iff.rfl)) <;> refine go1l ?_))
          all_goals (first | refine go1l ?_ | ((refine sl_split 63 (fun h => ?_) (fun h => ?_)) <;> (try (exfalso; first | contradiction | omega | exact h Iff.rfl)) <;> refine go1l ?_))
          all_goals (first | refine go1l ?_ | ((refine sl_split 63 (fun h => ?_) (fun h => ?_)) <;> (try (exfalso; first | contradiction | omega | exact h Iff.rfl)) <;> refine go1l ?_))
          all_goals (first | refine go1l ?_ | ((refine sl_split 63 (fun h => ?_) (fun h => ?_)) <;> (try (exfalso; first | contradiction | omega | exact h Iff.rfl)) <;> refine go1l ?_))
          all_goals (first | refine go1l ?_ | ((refine sl_split 68 (fun h => ?_) (fun h => ?_)) <;> (try (exfalso; first | contradiction | omega | exact h Iff.rfl)) <;> refine go1l ?_))
          all_goals (first | refine go1l ?_ | ((refine sl_split 68 (fun h => ?_) (fun h => ?_)) <;> (try (exfalso; first | contradiction | omega | exact h Iff.rfl)) <;> refine go1l ?_))
          all_goals (first | refine go1l ?_ | ((refine sl_split 68 (fun h => ?_) (fun h => ?_)) <;> (try (exfalso; first | contradiction | omega | exact h Iff.rfl)) <;> refine go1l ?_))
          all_goals (first | refine go1l ?_ | ((refine sl_split 63 (fun h => ?_) (fun h => ?_)) <;> (try (exfalso; first | contradiction | omega | exact h Iff.rfl)) <;> refine go1l ?_))
          all_goals (first | refine go1l ?_ | ((refine sl_split 63 (fun h => ?_) (fun h => ?_)) <;> (try (exfalso; first | contradiction | omega | exact h Iff.rfl)) <;> refine go1l ?_))
          all_goals (first | refine go1l ?_ | ((refine sl_split 73 (fun h => ?_) (fun h => ?_)) <;> (try (exfalso; first | contradiction | omega | exact h Iff.rfl)) <;> refine go1l ?_))
          all_goals (first | refine go1l ?_ | ((refine sl_split 73 (fun h => ?_) (fun h => ?_)) <;> (try (exfalso; first | contradiction | omega | exact h Iff.rfl)) <;> refine go1l ?_))
          all_goals (first | (first | refine sl_skip ?_ | refine sl_skip_u ?_ | refine sl_take_g (h := runop_indexN 0 ⟨rfl, by omega⟩) ?_) | ((refine sl_split 73 (fun h => ?_) (fun h => ?_)) <;> (try (exfalso; first | contradiction | omega | exact h Iff.rfl)) <;> (first | refine sl_skip ?_ | refine sl_skip_u ?_ | refine sl_take_g (h := runop_indexN 0 ⟨rfl, by omega⟩) ?_)))
          all_goals (first | refine go1l ?_ | ((refine sl_split 73 (fun h => ?_) (fun h => ?_)) <;> (try (exfalso; first | contradiction | omega | exact h Iff.rfl)) <;> refine go1l ?_))
          all_goals (first | (first | refine sl_skip ?_ | refine sl_skip_u ?_ | refine sl_take_g (h := runop_load_rdS 7101 0 (.string (strB l1[0].key)) hrv (spC_key (i := 0) (by omega)) rfl) ?_) | ((refine sl_split 73 (fun h => ?_) (fun h => ?_)) <;> (try (exfalso; first | contradiction | omega | exact h Iff.rfl)) <;> (first | refine sl_skip ?_ | refine sl_skip_u ?_ | refine sl_take_g (h := runop_load_rdS 7101 0 (.string (strB l1[0].key)) hrv (spC_key (i := 0) (by omega)) rfl) ?_)))
          all_goals (first | refine go1l ?_ | ((refine sl_split 73 (fun h => ?_) (fun h => ?_)) <;> (try (exfalso; first | contradiction | omega | exact h Iff.rfl)) <;> refine go1l ?_))
          all_goals (first | refine go1l ?_ | ((refine sl_split 73 (fun h => ?_) (fun h => ?_)) <;> (try (exfalso; first | contradiction | omega | exact h Iff.rfl)) <;> refine go1l ?_))
          all_goals (first | refine go1l ?_ | ((refine sl_split 73 (fun h => ?_) (fun h => ?_)) <;> (try (exfalso; first | contradiction | omega | exact h Iff.rfl)) <;> refine go1l ?_))
          all_goals (first | (first | refine sl_in_g (by omega) ?_ | refine go1l ?_) | ((refine sl_split 73 (fun h => ?_) (fun h => ?_)) <;> (try (exfalso; first | contradiction | omega | exact h Iff.rfl)) <;> (first | refine sl_in_g (by omega) ?_ | refine go1l ?_)))
          all_goals (first | (first | refine sl_skip ?_ | refine sl_skip_u ?_ | refine sl_take_g (h := runop_indexN (out.length - 1) ⟨by omega, by omega⟩) ?_) | ((refine sl_split 73 (fun h => ?_) (fun h => ?_)) <;> (try (exfalso; first | contradiction | omega | exact h Iff.rfl)) <;> (first | refine sl_skip ?_ | refine sl_skip_u ?_ | refine sl_take_g (h := runop_indexN (out.length - 1) ⟨by omega, by omega⟩) ?_)))
          all_goals (first | refine go1l ?_ | ((refine sl_split 73 (fun h => ?_) (fun h => ?_)) <;> (try (exfalso; first | contradiction | omega | exact h Iff.rfl)) <;> refine go1l ?_))
          all_goals (first | (first | refine sl_skip ?_ | refine sl_skip_u ?_ | refine sl_take_g (h := runop_load_rdS b3 ((out.length - 1) * 3) (.string (strB out[out.length - 1].key)) hro (spC_key (i := out.length - 1) (by omega)) rfl) ?_) | ((refine sl_split 73 (fun h => ?_) (fun h => ?_)) <;> (try (exfalso; first | contradiction | omega | exact h Iff.rfl)) <;> (first | refine sl_skip ?_ | refine sl_skip_u ?_ | refine sl_take_g (h := runop_load_rdS b3 ((out.length - 1) * 3) (.string (strB out[out.length - 1].key)) hro (spC_key (i := out.length - 1) (by omega)) rfl) ?_)))
          all_goals (first | (first | refine sl_skip ?_ | refine sl_skip_u ?_ | refine sl_take_g (h := runop_sleq (hlb _ (List.getElem_mem _)).1 (hob _ (List.getElem_mem _)).1) ?_) | ((refine sl_split 73 (fun h => ?_) (fun h => ?_)) <;> (try (exfalso; first | contradiction | omega | exact h Iff.rfl)) <;> (first | refine sl_skip ?_ | refine sl_skip_u ?_ | refine sl_take_g (h := runop_sleq (hlb _ (List.getElem_mem _)).1 (hob _ (List.getElem_mem _)).1) ?_)))
          all_goals (first | refine go1l ?_ | ((refine sl_split 63 (fun h => ?_) (fun h => ?_)) <;> (try (exfalso; first | contradiction | omega | exact h Iff.rfl)) <;> refine go1l ?_))
          all_goals (first | refine go1l ?_ | ((refine sl_split 63 (fun h => ?_) (fun h => ?_)) <;> (try (exfalso; first | contradiction | omega | exact h Iff.rfl)) <;> refine go1l ?_))
          all_goals refine sl_done ?_
          all_goals (repeat' (first | with_reducible (first | refine go1 ?_ | refine sct ?_ | refine scf ?_ | refine sgr ?_) | (with_reducible refine sc_cond (fun h => ?_) (fun h => ?_)) <;> (try (exfalso; first | contradiction | omega | exact h Iff.rfl)) | fail))
          all_goals first
          | (rw [if_pos (by
               first
               | exact .inl (fun h9 => absurd (hlast.2 h9) (show ¬ (la = true ↔ (i : Int) = (K : Int) - 1) from by assumption))
               | exact .inr (by simp [*]))] at hld2
             refine sq_ret2 Try.results10 ?_
             rw [hld2]
             refine ⟨_, ⟨none, hz, rfl, rfl⟩, ?_⟩
             rw [nG_none]
             repeat' (first | with_reducible exact Ent.refl _ | with_reducible refine Ent.take_eq ?_ ?_ | rfl | with_reducible refine Ent.oR ?_ | with_reducible refine Ent.trans (oR.drop _ _ _) ?_ | with_reducible refine Ent.trans (Ent.drop _ _) ?_)
             done)
          | (rw [if_neg (by
               intro h9
               rcases h9 with h9 | h9
               · exact h9 (hlast.1 (Classical.not_not.1 (show ¬¬ (la = true ↔ (i : Int) = (K : Int) - 1) from by assumption)))
               · first | (simp at h9; done) | (have h8 := Classical.not_not.1 h; rw [h8] at h9; cases h9))] at hld2
             refine sw_appendNVR (nb := 40) (spC (out)) (spC l1) (out).length (some (b3, c3, t3)) ho3 (fun w hw => hrv.sat (k := 7101) hw) spC_one rfl (by omega) ⟨spC_len l1, by simp only [List.length_nil] at *; omega, by simp only [List.length_nil] at *; omega⟩ fun o4 ho4 => ?_
             rw [← spC_app, ← List.length_append] at ho4
             rw [← spC_app, ← List.length_append]
             repeat' (first | with_reducible refine sw_in (by omega) ?_ | with_reducible (first | refine go1 ?_ | refine sct ?_ | refine scf ?_ | refine sgr ?_) | fail)
             refine sq_round ⟨((out) ++ l1, i + 1, o4), ho4, by simp only; omega, by simp only [List.length_append, List.length_nil] at *; omega, fun x hx => (List.mem_append.1 hx).elim (hob x) (hlb x), hld2⟩ ?_ ?_ ?_
             · show K - (i + 1) < K - i
               omega
             · repeat' (first | exact says_nil | refine says_cons rfl ?_ | refine says_cons (by simp) ?_)
             · repeat' (first | with_reducible exact Ent.refl _ | with_reducible refine Ent.take_eq ?_ ?_ | rfl | with_reducible refine Ent.oR ?_ | with_reducible refine Ent.trans (oR.drop _ _ _) ?_ | with_reducible refine Ent.trans (Ent.drop _ _) ?_)
             done)
      · obtain ⟨bb, oo, rfl⟩ := hsome hl0
        cases o3 with
        | none =>
          have ho0 := (ho3.2.1 rfl).2
          have ho1 : out = [] := List.length_eq_zero_iff.1 ho0
          subst ho1
          rw [clash_nil_l] at hld2
          rw [nG_none, show nV ([] : List Sp).length none = .slice none 0 0 from rfl]
          refine sc_lin ([(b15, pts b15 (.cells (ckV nu (.slice (some ⟨bb, oo, none⟩) l1.length cv) la).toArray 28 (0, 0))), (7101, BagS (ckBag ms))]) (llp 0 (llp 1 (llp 2 (llp 3 (llp 4 (llp 5 (llp 6 (llp 7 (llp 8 (llp 9 (llp 10 (llp 11 (llp 12 (llp 13 (llp 14 (llp 15 (llp 16 (llp 17 (llp 18 (llp 19 (llp 20 (llp 21 (llp 22 (llp 23 (llp 24 (llp 25 (llp 26 (llp 27 (llp 28 (llp 29 (llp 30 (llp 31 (llp 32 ll0))))))))))))))))))))))))))))))))) (by kernel_rfl) rfl (by kernel_rfl) ?_
          all_goals (iterate 4 refine go1l ?_)
          all_goals (first | refine sl_in (by omega) ?_ | refine go1l ?_)
          all_goals (iterate 3 refine go1l ?_)
          all_goals (first | refine go1l ?_ | ((refine sl_split 63 (fun h => ?_) (fun h => ?_)) <;> (try (exfalso; first | contradiction | omega | exact h Iff.rfl)) <;> refine go1l ?_))
          all_goals (first | refine go1l ?_ | ((refine sl_split 63 (fun h => ?_) (fun h => ?_)) <;> (try (exfalso; first | contradiction | omega | exact h Iff.rfl)) <;> refine go1l ?_))
          all_goals (first | refine go1l ?_ | ((refine sl_split 63 (fun h => ?_) (fun h => ?_)) <;> (try (exfalso; first | contradiction | omega | exact h Iff.rfl)) <;> refine go1l ?_))
          all_goals (first | refine go1l ?_ | ((refine sl_split 63 (fun h => ?_) (fun h => ?_)) <;> (try (exfalso; first | contradiction | omega | exact h Iff.rfl)) <;> refine go1l ?_))
          all_goals (first | refine go1l ?_ | ((refine sl_split 63 (fun h => ?_) (fun h => ?_)) <;> (try (exfalso; first | contradiction | omega | exact h Iff.rfl)) <;> refine go1l ?_))
          all_goals (first | refine go1l ?_ | ((refine sl_split 68 (fun h => ?_) (fun h => ?_)) <;> (try (exfalso; first | contradiction | omega | exact h Iff.rfl)) <;> refine go1l ?_))
          all_goals (first | refine go1l ?_ | ((refine sl_split 68 (fun h => ?_) (fun h => ?_)) <;> (try (exfalso; first | contradiction | omega | exact h Iff.rfl)) <;> refine go1l ?_))
          all_goals (first | refine go1l ?_ | ((refine sl_split 68 (fun h => ?_) (fun h => ?_)) <;> (try (exfalso; first | contradiction | omega | exact h Iff.rfl)) <;> refine go1l ?_))
          all_goals (first | refine go1l ?_ | ((refine sl_split 63 (fun h => ?_) (fun h => ?_)) <;> (try (exfalso; first | contradiction | omega | exact h Iff.rfl)) <;> refine go1l ?_))
          all_goals (first | refine go1l ?_ | ((refine sl_split 63 (fun h => ?_) (fun h => ?_)) <;> (try (exfalso; first | contradiction | omega | exact h Iff.rfl)) <;> refine go1l ?_))
          all_goals (first | refine go1l ?_ | ((refine sl_split 73 (fun h => ?_) (fun h => ?_)) <;> (try (exfalso; first | contradiction | omega | exact h Iff.rfl)) <;> refine go1l ?_))
          all_goals (first | refine go1l ?_ | ((refine sl_split 73 (fun h => ?_) (fun h => ?_)) <;> (try (exfalso; first | contradiction | omega | exact h Iff.rfl)) <;> refine go1l ?_))
          all_goals (first | (first | refine sl_skip ?_ | refine sl_skip_u ?_ | refine sl_take_g (h := runop_indexN 0 ⟨rfl, by omega⟩) ?_) | ((refine sl_split 73 (fun h => ?_) (fun h => ?_)) <;> (try (exfalso; first | contradiction | omega | exact h Iff.rfl)) <;> (first | refine sl_skip ?_ | refine sl_skip_u ?_ | refine sl_take_g (h := runop_indexN 0 ⟨rfl, by omega⟩) ?_)))
          all_goals (first | refine go1l ?_ | ((refine sl_split 73 (fun h => ?_) (fun h => ?_)) <;> (try (exfalso; first | contradiction | omega | exact h Iff.rfl)) <;> refine go1l ?_))
          all_goals (first | (first | refine sl_skip ?_ | refine sl_skip_u ?_ | refine sl_take_g (h := runop_load_rdS 7101 0 (.string (strB l1[0].key)) hrv (spC_key (i := 0) (by omega)) rfl) ?_) | ((refine sl_split 73 (fun h => ?_) (fun h => ?_)) <;> (try (exfalso; first | contradiction | omega | exact h Iff.rfl)) <;> (first | refine sl_skip ?_ | refine sl_skip_u ?_ | refine sl_take_g (h := runop_load_rdS 7101 0 (.string (strB l1[0].key)) hrv (spC_key (i := 0) (by omega)) rfl) ?_)))
          all_goals (first | refine go1l ?_ | ((refine sl_split 73 (fun h => ?_) (fun h => ?_)) <;> (try (exfalso; first | contradiction | omega | exact h Iff.rfl)) <;> refine go1l ?_))
          all_goals (first | refine go1l ?_ | ((refine sl_split 73 (fun h => ?_) (fun h => ?_)) <;> (try (exfalso; first | contradiction | omega | exact h Iff.rfl)) <;> refine go1l ?_))
          all_goals (first | refine go1l ?_ | ((refine sl_split 73 (fun h => ?_) (fun h => ?_)) <;> (try (exfalso; first | contradiction | omega | exact h Iff.rfl)) <;> refine go1l ?_))
          all_goals (first | (first | refine sl_in_g (by omega) ?_ | refine go1l ?_) | ((refine sl_split 73 (fun h => ?_) (fun h => ?_)) <;> (try (exfalso; first | contradiction | omega | exact h Iff.rfl)) <;> (first | refine sl_in_g (by omega) ?_ | refine go1l ?_)))
          all_goals (first | (first | refine sl_skip ?_ | refine sl_skip_u ?_ | refine sl_take_g (h := runop_indexN (out.length - 1) ⟨by omega, by omega⟩) ?_) | ((refine sl_split 73 (fun h => ?_) (fun h => ?_)) <;> (try (exfalso; first | contradiction | omega | exact h Iff.rfl)) <;> (first | refine sl_skip ?_ | refine sl_skip_u ?_ | refine sl_take_g (h := runop_indexN (out.length - 1) ⟨by omega, by omega⟩) ?_)))
          all_goals (first | refine go1l ?_ | ((refine sl_split 73 (fun h => ?_) (fun h => ?_)) <;> (try (exfalso; first | contradiction | omega | exact h Iff.rfl)) <;> refine go1l ?_))
          all_goals (first | (first | refine sl_skip ?_ | refine sl_skip_u ?_ | refine sl_take_g (h := runop_load_rdS b3 ((out.length - 1) * 3) (.string (strB out[out.length - 1].key)) hro (spC_key (i := out.length - 1) (by omega)) rfl) ?_) | ((refine sl_split 73 (fun h => ?_) (fun h => ?_)) <;> (try (exfalso; first | contradiction | omega | exact h Iff.rfl)) <;> (first | refine sl_skip ?_ | refine sl_skip_u ?_ | refine sl_take_g (h := runop_load_rdS b3 ((out.length - 1) * 3) (.string (strB out[out.length - 1].key)) hro (spC_key (i := out.length - 1) (by omega)) rfl) ?_)))
          all_goals (first | (first | refine sl_skip ?_ | refine sl_skip_u ?_ | refine sl_take_g (h := runop_sleq (hlb _ (List.getElem_mem _)).1 (hob _ (List.getElem_mem _)).1) ?_) | ((refine sl_split 73 (fun h => ?_) (fun h => ?_)) <;> (try (exfalso; first | contradiction | omega | exact h Iff.rfl)) <;> (first | refine sl_skip ?_ | refine sl_skip_u ?_ | refine sl_take_g (h := runop_sleq (hlb _ (List.getElem_mem _)).1 (hob _ (List.getElem_mem _)).1) ?_)))
          all_goals (first | refine go1l ?_ | ((refine sl_split 63 (fun h => ?_) (fun h => ?_)) <;> (try (exfalso; first | contradiction | omega | exact h Iff.rfl)) <;> refine go1l ?_))
          all_goals (first | refine go1l ?_ | ((refine sl_split 63 (fun h => ?_) (fun h => ?_)) <;> (try (exfalso; first | contradiction | omega | exact h Iff.rfl)) <;> refine go1l ?_))
          all_goals refine sl_done ?_
          all_goals (repeat' (first | with_reducible (first | refine go1 ?_ | refine sct ?_ | refine scf ?_ | refine sgr ?_) | (with_reducible refine sc_cond (fun h => ?_) (fun h => ?_)) <;> (try (exfalso; first | contradiction | omega | exact h Iff.rfl)) | fail))
          all_goals first
          | (rw [if_pos (by
               first
               | exact .inl (fun h9 => absurd (hlast.2 h9) (show ¬ (la = true ↔ (i : Int) = (K : Int) - 1) from by assumption))
               | exact .inr (by simp [*]))] at hld2
             refine sq_ret2 Try.results10 ?_
             rw [hld2]
             refine ⟨_, ⟨none, hz, rfl, rfl⟩, ?_⟩
             rw [nG_none]
             repeat' (first | with_reducible exact Ent.refl _ | with_reducible refine Ent.take_eq ?_ ?_ | rfl | with_reducible refine Ent.oR ?_ | with_reducible refine Ent.trans (oR.drop _ _ _) ?_ | with_reducible refine Ent.trans (Ent.drop _ _) ?_)
             done)
          | (rw [if_neg (by
               intro h9
               rcases h9 with h9 | h9
               · exact h9 (hlast.1 (Classical.not_not.1 (show ¬¬ (la = true ↔ (i : Int) = (K : Int) - 1) from by assumption)))
               · first | (simp at h9; done) | (have h8 := Classical.not_not.1 h; rw [h8] at h9; cases h9))] at hld2
             refine sw_appendNVR (nb := 40) (spC ([])) (spC l1) ([]).length none ho3 (fun w hw => hrv.sat (k := 7101) hw) spC_one rfl (by omega) ⟨spC_len l1, by simp only [List.length_nil] at *; omega, by simp only [List.length_nil] at *; omega⟩ fun o4 ho4 => ?_
             rw [← spC_app, ← List.length_append] at ho4
             rw [← spC_app, ← List.length_append]
             repeat' (first | with_reducible refine sw_in (by omega) ?_ | with_reducible (first | refine go1 ?_ | refine sct ?_ | refine scf ?_ | refine sgr ?_) | fail)
             refine sq_round ⟨(([]) ++ l1, i + 1, o4), ho4, by simp only; omega, by simp only [List.length_append, List.length_nil] at *; omega, fun x hx => (List.mem_append.1 hx).elim (hob x) (hlb x), hld2⟩ ?_ ?_ ?_
             · show K - (i + 1) < K - i
               omega
             · repeat' (first | exact says_nil | refine says_cons rfl ?_ | refine says_cons (by simp) ?_)
             · repeat' (first | with_reducible exact Ent.refl _ | with_reducible refine Ent.take_eq ?_ ?_ | rfl | with_reducible refine Ent.oR ?_ | with_reducible refine Ent.trans (oR.drop _ _ _) ?_ | with_reducible refine Ent.trans (Ent.drop _ _) ?_)
             done)
        | some y3 =>
          obtain ⟨b3, c3, t3⟩ := y3
          have hro : Reads (pts b3 (.cells (spC out ++ t3).toArray 50 (0, 0))) (some ⟨b3, 0, none⟩) (spC out) := reads_own
          rw [nG_some, show nV out.length (some (b3, c3, t3)) = .slice (some ⟨b3, 0, none⟩) out.length c3 from rfl]
          rcases Nat.eq_zero_or_pos out.length with hq0 | hq0
          · have ho1 : out = [] := List.length_eq_zero_iff.1 hq0
            have hcl : clash out l1 = false := by rw [ho1]; exact clash_nil_l _
            rw [hcl] at hld2
            refine sc_lin ([(b15, pts b15 (.cells (ckV nu (.slice (some ⟨bb, oo, none⟩) l1.length cv) la).toArray 28 (0, 0))), (7101, BagS (ckBag ms)), (b3, pts b3 (.cells (spC out ++ t3).toArray 50 (0, 0)))]) (llp 0 (llp 1 (llp 2 (llp 3 (llp 4 (llp 5 (llp 6 (llp 7 (llp 8 (llp 9 (llp 10 (llp 11 (llp 12 (llp 13 (llp 14 (llp 15 (llp 16 (llp 17 (llp 18 (llp 19 (llp 20 (llp 21 (llp 22 (llp 23 (llp 24 (llp 25 (llp 26 (llp 27 (llp 28 (llp 29 (llp 30 (llp 31 (llp 32 ll0))))))))))))))))))))))))))))))))) (by kernel_rfl) rfl (by kernel_rfl) ?_
            all_goals (iterate 4 refine go1l ?_)
            all_goals (first | refine sl_in (by omega) ?_ | refine go1l ?_)
            all_goals (iterate 3 refine go1l ?_)
            all_goals (first | refine go1l ?_ | ((refine sl_split 63 (fun h => ?_) (fun h => ?_)) <;> (try (exfalso; first | contradiction | omega | exact h Iff.rfl)) <;> refine go1l ?_))
            all_goals (first | refine go1l ?_ | ((refine sl_split 63 (fun h => ?_) (fun h => ?_)) <;> (try (exfalso; first | contradiction | omega | exact h Iff.rfl)) <;> refine go1l ?_))
            all_goals (first | refine go1l ?_ | ((refine sl_split 63 (fun h => ?_) (fun h => ?_)) <;> (try (exfalso; first | contradiction | omega | exact h Iff.rfl)) <;> refine go1l ?_))
            all_goals (first | refine go1l ?_ | ((refine sl_split 63 (fun h => ?_) (fun h => ?_)) <;> (try (exfalso; first | contradiction | omega | exact h Iff.rfl)) <;> refine go1l ?_))
            all_goals (first | refine go1l ?_ | ((refine sl_split 63 (fun h => ?_) (fun h => ?_)) <;> (try (exfalso; first | contradiction | omega | exact h Iff.rfl)) <;> refine go1l ?_))
            all_goals (first | refine go1l ?_ | ((refine sl_split 68 (fun h => ?_) (fun h => ?_)) <;> (try (exfalso; first | contradiction | omega | exact h Iff.rfl)) <;> refine go1l ?_))
            all_goals (first | refine go1l ?_ | ((refine sl_split 68 (fun h => ?_) (fun h => ?_)) <;> (try (exfalso; first | contradiction | omega | exact h Iff.rfl)) <;> refine go1l ?_))
            all_goals (first | refine go1l ?_ | ((refine sl_split 68 (fun h => ?_) (fun h => ?_)) <;> (try (exfalso; first | contradiction | omega | exact h Iff.rfl)) <;> refine go1l ?_))
            all_goals (first | refine go1l ?_ | ((refine sl_split 63 (fun h => ?_) (fun h => ?_)) <;> (try (exfalso; first | contradiction | omega | exact h Iff.rfl)) <;> refine go1l ?_))
            all_goals (first | refine go1l ?_ | ((refine sl_split 63 (fun h => ?_) (fun h => ?_)) <;> (try (exfalso; first | contradiction | omega | exact h Iff.rfl)) <;> refine go1l ?_))
            all_goals (first | refine go1l ?_ | ((refine sl_split 73 (fun h => ?_) (fun h => ?_)) <;> (try (exfalso; first | contradiction | omega | exact h Iff.rfl)) <;> refine go1l ?_))
            all_goals (first | refine go1l ?_ | ((refine sl_split 73 (fun h => ?_) (fun h => ?_)) <;> (try (exfalso; first | contradiction | omega | exact h Iff.rfl)) <;> refine go1l ?_))
            all_goals (first | (first | refine sl_skip ?_ | refine sl_skip_u ?_ | refine sl_take_g (h := runop_indexN 0 ⟨rfl, by omega⟩) ?_) | ((refine sl_split 73 (fun h => ?_) (fun h => ?_)) <;> (try (exfalso; first | contradiction | omega | exact h Iff.rfl)) <;> (first | refine sl_skip ?_ | refine sl_skip_u ?_ | refine sl_take_g (h := runop_indexN 0 ⟨rfl, by omega⟩) ?_)))
            all_goals (first | refine go1l ?_ | ((refine sl_split 73 (fun h => ?_) (fun h => ?_)) <;> (try (exfalso; first | contradiction | omega | exact h Iff.rfl)) <;> refine go1l ?_))
            all_goals (first | (first | refine sl_skip ?_ | refine sl_skip_u ?_ | refine sl_take_g (h := runop_load_rdS 7101 0 (.string (strB l1[0].key)) hrv (spC_key (i := 0) (by omega)) rfl) ?_) | ((refine sl_split 73 (fun h => ?_) (fun h => ?_)) <;> (try (exfalso; first | contradiction | omega | exact h Iff.rfl)) <;> (first | refine sl_skip ?_ | refine sl_skip_u ?_ | refine sl_take_g (h := runop_load_rdS 7101 0 (.string (strB l1[0].key)) hrv (spC_key (i := 0) (by omega)) rfl) ?_)))
            all_goals (first | refine go1l ?_ | ((refine sl_split 73 (fun h => ?_) (fun h => ?_)) <;> (try (exfalso; first | contradiction | omega | exact h Iff.rfl)) <;> refine go1l ?_))
            all_goals (first | refine go1l ?_ | ((refine sl_split 73 (fun h => ?_) (fun h => ?_)) <;> (try (exfalso; first | contradiction | omega | exact h Iff.rfl)) <;> refine go1l ?_))
            all_goals (first | refine go1l ?_ | ((refine sl_split 73 (fun h => ?_) (fun h => ?_)) <;> (try (exfalso; first | contradiction | omega | exact h Iff.rfl)) <;> refine go1l ?_))
            all_goals (first | (first | refine sl_in_g (by omega) ?_ | refine go1l ?_) | ((refine sl_split 73 (fun h => ?_) (fun h => ?_)) <;> (try (exfalso; first | contradiction | omega | exact h Iff.rfl)) <;> (first | refine sl_in_g (by omega) ?_ | refine go1l ?_)))
            all_goals (first | (first | refine sl_skip ?_ | refine sl_skip_u ?_ | refine sl_take_g (h := runop_indexN (out.length - 1) ⟨by omega, by omega⟩) ?_) | ((refine sl_split 73 (fun h => ?_) (fun h => ?_)) <;> (try (exfalso; first | contradiction | omega | exact h Iff.rfl)) <;> (first | refine sl_skip ?_ | refine sl_skip_u ?_ | refine sl_take_g (h := runop_indexN (out.length - 1) ⟨by omega, by omega⟩) ?_)))
            all_goals (first | refine go1l ?_ | ((refine sl_split 73 (fun h => ?_) (fun h => ?_)) <;> (try (exfalso; first | contradiction | omega | exact h Iff.rfl)) <;> refine go1l ?_))
            all_goals (first | (first | refine sl_skip ?_ | refine sl_skip_u ?_ | refine sl_take_g (h := runop_load_rdS b3 ((out.length - 1) * 3) (.string (strB out[out.length - 1].key)) hro (spC_key (i := out.length - 1) (by omega)) rfl) ?_) | ((refine sl_split 73 (fun h => ?_) (fun h => ?_)) <;> (try (exfalso; first | contradiction | omega | exact h Iff.rfl)) <;> (first | refine sl_skip ?_ | refine sl_skip_u ?_ | refine sl_take_g (h := runop_load_rdS b3 ((out.length - 1) * 3) (.string (strB out[out.length - 1].key)) hro (spC_key (i := out.length - 1) (by omega)) rfl) ?_)))
            all_goals (first | (first | refine sl_skip ?_ | refine sl_skip_u ?_ | refine sl_take_g (h := runop_sleq (hlb _ (List.getElem_mem _)).1 (hob _ (List.getElem_mem _)).1) ?_) | ((refine sl_split 73 (fun h => ?_) (fun h => ?_)) <;> (try (exfalso; first | contradiction | omega | exact h Iff.rfl)) <;> (first | refine sl_skip ?_ | refine sl_skip_u ?_ | refine sl_take_g (h := runop_sleq (hlb _ (List.getElem_mem _)).1 (hob _ (List.getElem_mem _)).1) ?_)))
            all_goals (first | refine go1l ?_ | ((refine sl_split 63 (fun h => ?_) (fun h => ?_)) <;> (try (exfalso; first | contradiction | omega | exact h Iff.rfl)) <;> refine go1l ?_))
            all_goals (first | refine go1l ?_ | ((refine sl_split 63 (fun h => ?_) (fun h => ?_)) <;> (try (exfalso; first | contradiction | omega | exact h Iff.rfl)) <;> refine go1l ?_))
            all_goals refine sl_done ?_
            all_goals (repeat' (first | with_reducible (first | refine go1 ?_ | refine sct ?_ | refine scf ?_ | refine sgr ?_) | (with_reducible refine sc_cond (fun h => ?_) (fun h => ?_)) <;> (try (exfalso; first | contradiction | omega | exact h Iff.rfl)) | fail))
            all_goals first
            | (rw [if_pos (by
                 first
                 | exact .inl (fun h9 => absurd (hlast.2 h9) (show ¬ (la = true ↔ (i : Int) = (K : Int) - 1) from by assumption))
                 | exact .inr (by simp [*]))] at hld2
               refine sq_ret2 Try.results10 ?_
               rw [hld2]
               refine ⟨_, ⟨none, hz, rfl, rfl⟩, ?_⟩
               rw [nG_none]
               repeat' (first | with_reducible exact Ent.refl _ | with_reducible refine Ent.take_eq ?_ ?_ | rfl | with_reducible refine Ent.oR ?_ | with_reducible refine Ent.trans (oR.drop _ _ _) ?_ | with_reducible refine Ent.trans (Ent.drop _ _) ?_)
               done)
            | (rw [if_neg (by
                 intro h9
                 rcases h9 with h9 | h9
                 · exact h9 (hlast.1 (Classical.not_not.1 (show ¬¬ (la = true ↔ (i : Int) = (K : Int) - 1) from by assumption)))
                 · first | (simp at h9; done) | (have h8 := Classical.not_not.1 h; rw [h8] at h9; cases h9))] at hld2
               refine sw_appendNVR (nb := 40) (spC (out)) (spC l1) (out).length (some (b3, c3, t3)) ho3 (fun w hw => hrv.sat (k := 7101) hw) spC_one rfl (by omega) ⟨spC_len l1, by simp only [List.length_nil] at *; omega, by simp only [List.length_nil] at *; omega⟩ fun o4 ho4 => ?_
               rw [← spC_app, ← List.length_append] at ho4
               rw [← spC_app, ← List.length_append]
               repeat' (first | with_reducible refine sw_in (by omega) ?_ | with_reducible (first | refine go1 ?_ | refine sct ?_ | refine scf ?_ | refine sgr ?_) | fail)
               refine sq_round ⟨((out) ++ l1, i + 1, o4), ho4, by simp only; omega, by simp only [List.length_append, List.length_nil] at *; omega, fun x hx => (List.mem_append.1 hx).elim (hob x) (hlb x), hld2⟩ ?_ ?_ ?_
               · show K - (i + 1) < K - i
                 omega
               · repeat' (first | exact says_nil | refine says_cons rfl ?_ | refine says_cons (by simp) ?_)
               · repeat' (first | with_reducible exact Ent.refl _ | with_reducible refine Ent.take_eq ?_ ?_ | rfl | with_reducible refine Ent.oR ?_ | with_reducible refine Ent.trans (oR.drop _ _ _) ?_ | with_reducible refine Ent.trans (Ent.drop _ _) ?_)
               done)
          · rw [clash_cons hq0 hl0] at hld2
            refine sc_lin ([(b15, pts b15 (.cells (ckV nu (.slice (some ⟨bb, oo, none⟩) l1.length cv) la).toArray 28 (0, 0))), (7101, BagS (ckBag ms)), (b3, pts b3 (.cells (spC out ++ t3).toArray 50 (0, 0)))]) (llp 0 (llp 1 (llp 2 (llp 3 (llp 4 (llp 5 (llp 6 (llp 7 (llp 8 (llp 9 (llp 10 (llp 11 (llp 12 (llp 13 (llp 14 (llp 15 (llp 16 (llp 17 (llp 18 (llp 19 (llp 20 (llp 21 (llp 22 (llp 23 (llp 24 (llp 25 (llp 26 (llp 27 (llp 28 (llp 29 (llp 30 (llp 31 (llp 32 ll0))))))))))))))))))))))))))))))))) (by kernel_rfl) rfl (by kernel_rfl) ?_
            all_goals (iterate 4 refine go1l ?_)
            all_goals (first | refine sl_in (by omega) ?_ | refine go1l ?_)
            all_goals (iterate 3 refine go1l ?_)
            all_goals (first | refine go1l ?_ | ((refine sl_split 63 (fun h => ?_) (fun h => ?_)) <;> (try (exfalso; first | contradiction | omega | exact h Iff.rfl)) <;> refine go1l ?_))
            all_goals (first | refine go1l ?_ | ((refine sl_split 63 (fun h => ?_) (fun h => ?_)) <;> (try (exfalso; first | contradiction | omega | exact h Iff.rfl)) <;> refine go1l ?_))
            all_goals (first | refine go1l ?_ | ((refine sl_split 63 (fun h => ?_) (fun h => ?_)) <;> (try (exfalso; first | contradiction | omega | exact h Iff.rfl)) <;> refine go1l ?_))
            all_goals (first | refine go1l ?_ | ((refine sl_split 63 (fun h => ?_) (fun h => ?_)) <;> (try (exfalso; first | contradiction | omega | exact h Iff.rfl)) <;> refine go1l ?_))
            all_goals (first | refine go1l ?_ | ((refine sl_split 63 (fun h => ?_) (fun h => ?_)) <;> (try (exfalso; first | contradiction | omega | exact h Iff.rfl)) <;> refine go1l ?_))
            all_goals (first | refine go1l ?_ | ((refine sl_split 68 (fun h => ?_) (fun h => ?_)) <;> (try (exfalso; first | contradiction | omega | exact h Iff.rfl)) <;> refine go1l ?_))
            all_goals (first | refine go1l ?_ | ((refine sl_split 68 (fun h => ?_) (fun h => ?_)) <;> (try (exfalso; first | contradiction | omega | exact h Iff.rfl)) <;> refine go1l ?_))
            all_goals (first | refine go1l ?_ | ((refine sl_split 68 (fun h => ?_) (fun h => ?_)) <;> (try (exfalso; first | contradiction | omega | exact h Iff.rfl)) <;> refine go1l ?_))
            all_goals (first | refine go1l ?_ | ((refine sl_split 63 (fun h => ?_) (fun h => ?_)) <;> (try (exfalso; first | contradiction | omega | exact h Iff.rfl)) <;> refine go1l ?_))
            all_goals (first | refine go1l ?_ | ((refine sl_split 63 (fun h => ?_) (fun h => ?_)) <;> (try (exfalso; first | contradiction | omega | exact h Iff.rfl)) <;> refine go1l ?_))
            all_goals (first | refine go1l ?_ | ((refine sl_split 73 (fun h => ?_) (fun h => ?_)) <;> (try (exfalso; first | contradiction | omega | exact h Iff.rfl)) <;> refine go1l ?_))
            all_goals (first | refine go1l ?_ | ((refine sl_split 73 (fun h => ?_) (fun h => ?_)) <;> (try (exfalso; first | contradiction | omega | exact h Iff.rfl)) <;> refine go1l ?_))
            all_goals (first | (first | refine sl_skip ?_ | refine sl_skip_u ?_ | refine sl_take_g (h := runop_indexN 0 ⟨rfl, by omega⟩) ?_) | ((refine sl_split 73 (fun h => ?_) (fun h => ?_)) <;> (try (exfalso; first | contradiction | omega | exact h Iff.rfl)) <;> (first | refine sl_skip ?_ | refine sl_skip_u ?_ | refine sl_take_g (h := runop_indexN 0 ⟨rfl, by omega⟩) ?_)))
            all_goals (first | refine go1l ?_ | ((refine sl_split 73 (fun h => ?_) (fun h => ?_)) <;> (try (exfalso; first | contradiction | omega | exact h Iff.rfl)) <;> refine go1l ?_))
            all_goals (first | (first | refine sl_skip ?_ | refine sl_skip_u ?_ | refine sl_take_g (h := runop_load_rdS 7101 0 (.string (strB l1[0].key)) hrv (spC_key (i := 0) (by omega)) rfl) ?_) | ((refine sl_split 73 (fun h => ?_) (fun h => ?_)) <;> (try (exfalso; first | contradiction | omega | exact h Iff.rfl)) <;> (first | refine sl_skip ?_ | refine sl_skip_u ?_ | refine sl_take_g (h := runop_load_rdS 7101 0 (.string (strB l1[0].key)) hrv (spC_key (i := 0) (by omega)) rfl) ?_)))
            all_goals (first | refine go1l ?_ | ((refine sl_split 73 (fun h => ?_) (fun h => ?_)) <;> (try (exfalso; first | contradiction | omega | exact h Iff.rfl)) <;> refine go1l ?_))
            all_goals (first | refine go1l ?_ | ((refine sl_split 73 (fun h => ?_) (fun h => ?_)) <;> (try (exfalso; first | contradiction | omega | exact h Iff.rfl)) <;> refine go1l ?_))
            all_goals (first | refine go1l ?_ | ((refine sl_split 73 (fun h => ?_) (fun h => ?_)) <;> (try (exfalso; first | contradiction | omega | exact h Iff.rfl)) <;> refine go1l ?_))
            all_goals (first | (first | refine sl_in_g (by omega) ?_ | refine go1l ?_) | ((refine sl_split 73 (fun h => ?_) (fun h => ?_)) <;> (try (exfalso; first | contradiction | omega | exact h Iff.rfl)) <;> (first | refine sl_in_g (by omega) ?_ | refine go1l ?_)))
            all_goals (first | (first | refine sl_skip ?_ | refine sl_skip_u ?_ | refine sl_take_g (h := runop_indexN (out.length - 1) ⟨by omega, by omega⟩) ?_) | ((refine sl_split 73 (fun h => ?_) (fun h => ?_)) <;> (try (exfalso; first | contradiction | omega | exact h Iff.rfl)) <;> (first | refine sl_skip ?_ | refine sl_skip_u ?_ | refine sl_take_g (h := runop_indexN (out.length - 1) ⟨by omega, by omega⟩) ?_)))
            all_goals (first | refine go1l ?_ | ((refine sl_split 73 (fun h => ?_) (fun h => ?_)) <;> (try (exfalso; first | contradiction | omega | exact h Iff.rfl)) <;> refine go1l ?_))
            all_goals (first | (first | refine sl_skip ?_ | refine sl_skip_u ?_ | refine sl_take_g (h := runop_load_rdS b3 ((out.length - 1) * 3) (.string (strB out[out.length - 1].key)) hro (spC_key (i := out.length - 1) (by omega)) rfl) ?_) | ((refine sl_split 73 (fun h => ?_) (fun h => ?_)) <;> (try (exfalso; first | contradiction | omega | exact h Iff.rfl)) <;> (first | refine sl_skip ?_ | refine sl_skip_u ?_ | refine sl_take_g (h := runop_load_rdS b3 ((out.length - 1) * 3) (.string (strB out[out.length - 1].key)) hro (spC_key (i := out.length - 1) (by omega)) rfl) ?_)))
            all_goals (first | (first | refine sl_skip ?_ | refine sl_skip_u ?_ | refine sl_take_g (h := runop_sleq (hlb _ (List.getElem_mem _)).1 (hob _ (List.getElem_mem _)).1) ?_) | ((refine sl_split 73 (fun h => ?_) (fun h => ?_)) <;> (try (exfalso; first | contradiction | omega | exact h Iff.rfl)) <;> (first | refine sl_skip ?_ | refine sl_skip_u ?_ | refine sl_take_g (h := runop_sleq (hlb _ (List.getElem_mem _)).1 (hob _ (List.getElem_mem _)).1) ?_)))
            all_goals (first | refine go1l ?_ | ((refine sl_split 63 (fun h => ?_) (fun h => ?_)) <;> (try (exfalso; first | contradiction | omega | exact h Iff.rfl)) <;> refine go1l ?_))
            all_goals (first | refine go1l ?_ | ((refine sl_split 63 (fun h => ?_) (fun h => ?_)) <;> (try (exfalso; first | contradiction | omega | exact h Iff.rfl)) <;> refine go1l ?_))
            all_goals refine sl_done ?_
            all_goals (repeat' (first | with_reducible (first | refine go1 ?_ | refine sct ?_ | refine scf ?_ | refine sgr ?_) | (with_reducible refine sc_cond (fun h => ?_) (fun h => ?_)) <;> (try (exfalso; first | contradiction | omega | exact h Iff.rfl)) | fail))
            
            all_goals first
            | (rw [if_pos (by
                 first
                 | exact .inl (fun h9 => absurd (hlast.2 h9) (show ¬ (la = true ↔ (i : Int) = (K : Int) - 1) from by assumption))
                 | exact .inr (by simp [*]))] at hld2
               refine sq_ret2 Try.results10 ?_
               rw [hld2]
               refine ⟨_, ⟨none, hz, rfl, rfl⟩, ?_⟩
               rw [nG_none]
               repeat' (first | with_reducible exact Ent.refl _ | with_reducible refine Ent.take_eq ?_ ?_ | rfl | with_reducible refine Ent.oR ?_ | with_reducible refine Ent.trans (oR.drop _ _ _) ?_ | with_reducible refine Ent.trans (Ent.drop _ _) ?_)
               done)
            | (rw [if_neg (by
                 intro h9
                 rcases h9 with h9 | h9
                 · exact h9 (hlast.1 (Classical.not_not.1 (show ¬¬ (la = true ↔ (i : Int) = (K : Int) - 1) from by assumption)))
                 · first | (simp at h9; done) | (have h8 := Classical.not_not.1 h; rw [h8] at h9; cases h9))] at hld2
               refine sw_appendNVR (nb := 40) (spC (out)) (spC l1) (out).length (some (b3, c3, t3)) ho3 (fun w hw => hrv.sat (k := 7101) hw) spC_one rfl (by omega) ⟨spC_len l1, by simp only [List.length_nil] at *; omega, by simp only [List.length_nil] at *; omega⟩ fun o4 ho4 => ?_
               rw [← spC_app, ← List.length_append] at ho4
               rw [← spC_app, ← List.length_append]
               repeat' (first | with_reducible refine sw_in (by omega) ?_ | with_reducible (first | refine go1 ?_ | refine sct ?_ | refine scf ?_ | refine sgr ?_) | fail)
               refine sq_round ⟨((out) ++ l1, i + 1, o4), ho4, by simp only; omega, by simp only [List.length_append, List.length_nil] at *; omega, fun x hx => (List.mem_append.1 hx).elim (hob x) (hlb x), hld2⟩ ?_ ?_ ?_
               · show K - (i + 1) < K - i
                 omega
               · repeat' (first | exact says_nil | refine says_cons rfl ?_ | refine says_cons (by simp) ?_)
               · repeat' (first | with_reducible exact Ent.refl _ | with_reducible refine Ent.take_eq ?_ ?_ | rfl | with_reducible refine Ent.oR ?_ | with_reducible refine Ent.trans (oR.drop _ _ _) ?_ | with_reducible refine Ent.trans (Ent.drop _ _) ?_)
               done)
    · have hiK : i = K := by omega
      subst hiK
      rw [List.drop_eq_nil_of_le (by rw [List.length_map]; omega)] at hld
      have hld3 : loadL i 0 [] (ms.map Prod.fst) = some out := hld
      rw [hld3]
      refine sq_ret2 Try.results10 ?_
      refine ⟨_, ⟨o3, ho3, rfl, rfl⟩, ?_⟩
      repeat' (first | with_reducible exact Ent.refl _ | with_reducible refine Ent.take_eq ?_ ?_ | rfl | with_reducible refine Ent.oR ?_ | with_reducible refine Ent.trans (oR.drop _ _ _) ?_ | with_reducible refine Ent.trans (Ent.drop _ _) ?_)
end Go.Gsl

namespace Go.Gsl
set_option linter.unusedVariables false
open Go.Proofs

theorem r3Key_ok (s : List Int) (hb : Byt s) : Spec Try.prog 58 [.string (strB s)] [] [] fun F w Rs' => w = .int .i64 (if s.length = 0 ∨ 64 < s.length then 30 else 0) ∧ Rs' = F := by
  refine spec_of Try.func58 rfl Try.ntmps58 rfl ?_
  intro w0 F
  have he : strB s = ByteArray.mk #[] ↔ s = [] := strB_inj (b := []) hb (fun x hx => by cases hx)
  have hn : s = [] ↔ s.length = 0 := List.length_eq_zero_iff.symm
  rw [hn] at he
  clear hn
  repeat' (first | with_reducible (first | refine go1 ?_ | refine sct ?_ | refine scf ?_ | refine sgr ?_) | (with_reducible refine sc_cond (fun h => ?_) (fun h => ?_)) <;> (try (exfalso; first | contradiction | omega | exact h Iff.rfl)) | (with_reducible refine sw_guard_split (fun h => ?_) (fun h => ?_)) <;> (try (exfalso; first | contradiction | omega | exact h Iff.rfl)) | (with_reducible refine sw_pick (fun h => ?_) (fun h => ?_)) <;> (try (exfalso; first | contradiction | omega | exact h Iff.rfl)) | fail)
  · have := he.1 h
    refine sq_ret1 Try.results58 ?_
    exact ⟨_, ⟨by rw [if_pos (by omega)], rfl⟩, Ent.refl _⟩
  · refine sq_ret1 Try.results58 ?_
    exact ⟨_, ⟨by rw [if_pos (by omega)], rfl⟩, Ent.refl _⟩
  · rename_i h0
    have : ¬ s.length = 0 := fun h' => h0 (he.2 h')
    refine sq_ret1 Try.results58 ?_
    exact ⟨_, ⟨by rw [if_neg (by omega)], rfl⟩, Ent.refl _⟩
theorem r3Value_ok (s : List Int) : Spec Try.prog 59 [.string (strB s)] [] [] fun F w Rs' => w = .int .i64 (if 256 < s.length then 31 else 0) ∧ Rs' = F := by
  refine spec_of Try.func59 rfl Try.ntmps59 rfl ?_
  intro w0 F
  repeat' (first | with_reducible (first | refine go1 ?_ | refine sct ?_ | refine scf ?_ | refine sgr ?_) | (with_reducible refine sc_cond (fun h => ?_) (fun h => ?_)) <;> (try (exfalso; first | contradiction | omega | exact h Iff.rfl)) | fail)
  · refine sq_ret1 Try.results59 ?_
    exact ⟨_, ⟨by rw [if_pos (by omega)], rfl⟩, Ent.refl _⟩
  · refine sq_ret1 Try.results59 ?_
    exact ⟨_, ⟨by rw [if_neg (by omega)], rfl⟩, Ent.refl _⟩
theorem r3ts_ok (x : Int) : Spec Try.prog 60 [.int .i64 x] [] [] fun F v Rs' => v = .bool (decide (Stamp x 1)) ∧ Rs' = F := by
  refine spec_of Try.func60 rfl Try.ntmps60 rfl ?_
  intro w0 F
  repeat' (first | with_reducible (first | refine go1 ?_ | refine sct ?_ | refine scf ?_ | refine sgr ?_) | (with_reducible refine sc_cond (fun h => ?_) (fun h => ?_)) <;> (try (exfalso; first | contradiction | omega | exact h Iff.rfl)) | (with_reducible refine sw_guard_split (fun h => ?_) (fun h => ?_)) <;> (try (exfalso; first | contradiction | omega | exact h Iff.rfl)) | (with_reducible refine sw_pick (fun h => ?_) (fun h => ?_)) <;> (try (exfalso; first | contradiction | omega | exact h Iff.rfl)) | fail)
  · refine sq_ret1 Try.results60 ?_
    exact ⟨_, ⟨by congr 1; simp [Stamp, h], rfl⟩, Ent.refl _⟩
  · refine sq_ret1 Try.results60 ?_
    exact ⟨_, ⟨by congr 1; simp [Stamp, h], rfl⟩, Ent.refl _⟩

set_option maxHeartbeats 2000000 in
theorem r3CheckChunk_ok (k : Nat) (r : HProp) (v : Value) (c : Ck) (hv : RdS r v c.l) (hb : SpsB c.l) (hl : c.l.length ≤ 4611686018427387904) : Spec Try.prog 39 [.agg (ckV c.num v c.last).toArray] [k] [r] fun F w Rs' => w = .int .i64 c.chk ∧ Rs' = (k, r) :: F := by
  obtain ⟨a, cp, rfl, hc, hsome, hr⟩ := hv
  refine spec_of Try.func39 rfl Try.ntmps39 rfl ?_
  intro w0 F
  repeat' (first | with_reducible (first | refine go1 ?_ | refine sct ?_ | refine scf ?_ | refine sgr ?_) | fail)
  refine sw_box fun b1 => ?_
  unfold Ck.chk
  repeat' (first | with_reducible (first | refine go1 ?_ | refine sct ?_ | refine scf ?_ | refine sgr ?_) | with_reducible refine sw_guard_skip_u ?_ | (with_reducible refine sc_cond (fun h => ?_) (fun h => ?_)) <;> (try (exfalso; first | contradiction | omega | exact h Iff.rfl)) | (with_reducible refine sw_guard_split (fun h => ?_) (fun h => ?_)) <;> (try (exfalso; first | contradiction | omega | exact h Iff.rfl)) | (with_reducible refine sw_pick (fun h => ?_) (fun h => ?_)) <;> (try (exfalso; first | contradiction | omega | exact h Iff.rfl)) | fail)
  iterate 3
    · refine sq_ret1 Try.results39 ?_
      refine ⟨_, ⟨?_, rfl⟩, Ent.drop _ _⟩
      rw [if_pos (by omega)]
  · rw [if_neg (by omega)]
    obtain ⟨nu, la, l⟩ := c
    simp only at *
    refine sc_loop (α := { i : Nat // i ≤ l.length ∧ chksL none l = chksAt l i }) (fun i => [(1, .pointer (some ⟨b1, 0, none⟩)), (3, .int .i64 (i.1 : Int))])
      (fun _ => (b1, pts b1 (.cells (ckV nu (.slice a l.length cp) la).toArray 28 (0, 0))) :: (k, r) :: F) (fun i => l.length - i.1) ⟨0, Nat.zero_le _, rfl⟩ ?_ ?_ ?_
    · repeat' (first | exact says_nil | refine says_cons rfl ?_ | refine says_cons (by simp) ?_)
    · exact Ent.refl _
    rintro ⟨i, hi, hf⟩ e
    (try simp only at hi hf)
    simp only [List.cons_append, List.nil_append]
    repeat' (first | with_reducible refine sw_in (by omega) ?_ | with_reducible (first | refine go1 ?_ | refine sct ?_ | refine scf ?_ | refine sgr ?_) | (with_reducible refine sc_cond (fun h => ?_) (fun h => ?_)) <;> (try (exfalso; first | contradiction | omega | exact h Iff.rfl)) | fail)
    · have hi2 : i < l.length := by omega
      obtain ⟨b, o, rfl⟩ := hsome (by omega)
      have hstep := chksAt_step hi2
      have hbx := hb l[i] (List.getElem_mem hi2)
      have hel := spC_elem hi2
      have hp0 : i = 0 → prevK l i = none := fun h => by unfold prevK; rw [if_pos h]
      obtain ⟨y, hp1⟩ : ∃ y, 0 < i → prevK l i = some y ∧ Byt y ∧ (spC l)[(i - 1) * 3]? = some (.string (strB y)) := by
        rcases Nat.eq_zero_or_pos i with h | h
        · exact ⟨[], fun h' => by omega⟩
        have h7 : i - 1 < l.length := by omega
        refine ⟨l[i - 1].key, fun _ => ⟨?_, (hb _ (List.getElem_mem h7)).1, spC_key h7⟩⟩
        unfold prevK
        rw [if_neg (by omega), List.getElem?_eq_getElem h7]
        rfl
      have hg := hf.trans hstep
      clear hstep
      generalize prevK l i = pk at hp0 hp1 hg
      generalize l[i] = x at hbx hel hg
      refine sw_indexN i ⟨rfl, hi2⟩ ?_
      refine sw_load_aggR k (i * 3) x.cs hr rfl hel rfl ?_
      repeat' (first | with_reducible (first | refine go1 ?_ | refine sct ?_ | refine scf ?_ | refine sgr ?_) | fail)
      refine sw_alloc fun b2 => ?_
      repeat' (first | with_reducible (first | refine go1 ?_ | refine sct ?_ | refine scf ?_ | refine sgr ?_) | fail)
      refine sw_store_agg ?_
      have hck : x.chk (okK pk x.key) = if x.key.length = 0 ∨ 64 < x.key.length then 30 else if 256 < x.val.length then 31 else if Stamp x.ts 1 ∧ okK pk x.key = true then 0 else 32 := rfl
      repeat' (first | with_reducible (first | refine go1 ?_ | refine sct ?_ | refine scf ?_ | refine sgr ?_) | ((with_reducible refine sw_call (r3Key_ok x.key hbx.1) ?_); rintro _ _ ⟨rfl, rfl⟩) | ((with_reducible refine sw_call (r3Value_ok x.val) ?_); rintro _ _ ⟨rfl, rfl⟩) | (with_reducible refine sc_cond (fun h => ?_) (fun h => ?_)) <;> (try (exfalso; first | contradiction | omega | exact h Iff.rfl)) | fail)
      · have h8 : x.key.length = 0 ∨ 64 < x.key.length := by
          rcases Classical.em (x.key.length = 0 ∨ 64 < x.key.length) with h9 | h9
          · exact h9
          · rw [if_neg h9] at h; exact absurd rfl h
        rw [if_pos h8] at hck
        rw [hck, if_pos (by decide)] at hg
        rw [hg, if_pos h8]
        refine sq_ret1 Try.results39 ?_
        refine ⟨_, ⟨rfl, rfl⟩, ?_⟩
        repeat' (first | with_reducible exact Ent.refl _ | with_reducible refine Ent.take_eq ?_ ?_ | rfl | with_reducible refine Ent.oR ?_ | with_reducible refine Ent.trans (oR.drop _ _ _) ?_ | with_reducible refine Ent.trans (Ent.drop _ _) ?_)
      · rename_i h0
        have h8 : ¬ (x.key.length = 0 ∨ 64 < x.key.length) := fun h9 => by rw [if_pos h9] at h0; exact h0 (by decide)
        have h7 : 256 < x.val.length := by
          rcases Classical.em (256 < x.val.length) with h9 | h9
          · exact h9
          · rw [if_neg h9] at h; exact absurd rfl h
        rw [if_neg h8, if_pos h7] at hck
        rw [hck, if_pos (by decide)] at hg
        rw [hg, if_pos h7]
        refine sq_ret1 Try.results39 ?_
        refine ⟨_, ⟨rfl, rfl⟩, ?_⟩
        repeat' (first | with_reducible exact Ent.refl _ | with_reducible refine Ent.take_eq ?_ ?_ | rfl | with_reducible refine Ent.oR ?_ | with_reducible refine Ent.trans (oR.drop _ _ _) ?_ | with_reducible refine Ent.trans (Ent.drop _ _) ?_)
      · rename_i h0
        have h8 : ¬ (x.key.length = 0 ∨ 64 < x.key.length) := fun h9 => by rw [if_pos h9] at h0; exact h0 (by decide)
        have h7 : ¬ 256 < x.val.length := fun h9 => by rw [if_pos h9] at h; exact h (by decide)
        rw [if_neg h8, if_neg h7] at hck
        rw [hck] at hg
        clear h h0
        refine sc_lin ([(b2, pts b2 (.cells x.cs.toArray 50 (0, 0))), (b1, pts b1 (.cells (ckV nu (.slice (some ⟨b, o, none⟩) l.length cp) la).toArray 28 (0, 0))), (k, r)]) (llp 0 (llp 1 (lle 2 (llp 3 (llp 4 (llp 5 (llp 6 (llp 7 (llp 8 (llp 9 (llp 10 (llp 11 (llp 12 (llp 13 (llp 14 (llp 15 (llp 16 (llp 17 (llp 18 (llp 19 ll0)))))))))))))))))))) (by kernel_rfl) rfl (by kernel_rfl) ?_
        all_goals (iterate 2 refine go1l ?_)
        all_goals refine sl_eff ?_
        all_goals (repeat' (first | with_reducible (first | refine go1 ?_ | refine sct ?_ | refine scf ?_ | refine sgr ?_) | ((with_reducible refine sw_callf (r3ts_ok x.ts) ?_); rintro _ _ ⟨rfl, rfl⟩) | with_reducible refine sl_back ?_ | fail))
        all_goals (iterate 2 refine go1l ?_)
        all_goals (first | refine go1l ?_ | ((refine sl_split 49 (fun h => ?_) (fun h => ?_)) <;> (try (exfalso; first | contradiction | omega | exact h Iff.rfl)) <;> refine go1l ?_))
        all_goals (first | refine go1l ?_ | ((refine sl_split 49 (fun h => ?_) (fun h => ?_)) <;> (try (exfalso; first | contradiction | omega | exact h Iff.rfl)) <;> refine go1l ?_))
        all_goals (first | refine go1l ?_ | ((refine sl_split 49 (fun h => ?_) (fun h => ?_)) <;> (try (exfalso; first | contradiction | omega | exact h Iff.rfl)) <;> refine go1l ?_))
        all_goals (first | refine go1l ?_ | ((refine sl_split 52 (fun h => ?_) (fun h => ?_)) <;> (try (exfalso; first | contradiction | omega | exact h Iff.rfl)) <;> refine go1l ?_))
        all_goals (first | refine go1l ?_ | ((refine sl_split 52 (fun h => ?_) (fun h => ?_)) <;> (try (exfalso; first | contradiction | omega | exact h Iff.rfl)) <;> refine go1l ?_))
        all_goals (first | refine go1l ?_ | ((refine sl_split 52 (fun h => ?_) (fun h => ?_)) <;> (try (exfalso; first | contradiction | omega | exact h Iff.rfl)) <;> refine go1l ?_))
        all_goals (first | refine go1l ?_ | ((refine sl_split 52 (fun h => ?_) (fun h => ?_)) <;> (try (exfalso; first | contradiction | omega | exact h Iff.rfl)) <;> refine go1l ?_))
        all_goals (first | refine go1l ?_ | ((refine sl_split 52 (fun h => ?_) (fun h => ?_)) <;> (try (exfalso; first | contradiction | omega | exact h Iff.rfl)) <;> refine go1l ?_))
        all_goals (first | (first | refine sl_in_g (by omega) ?_ | refine go1l ?_) | ((refine sl_split 52 (fun h => ?_) (fun h => ?_)) <;> (try (exfalso; first | contradiction | omega | exact h Iff.rfl)) <;> (first | refine sl_in_g (by omega) ?_ | refine go1l ?_)))
        all_goals (first | (first | refine sl_skip ?_ | refine sl_skip_u ?_ | refine sl_take_g (h := runop_indexN (i - 1) ⟨by omega, by omega⟩) ?_) | ((refine sl_split 52 (fun h => ?_) (fun h => ?_)) <;> (try (exfalso; first | contradiction | omega | exact h Iff.rfl)) <;> (first | refine sl_skip ?_ | refine sl_skip_u ?_ | refine sl_take_g (h := runop_indexN (i - 1) ⟨by omega, by omega⟩) ?_)))
        all_goals (first | refine go1l ?_ | ((refine sl_split 52 (fun h => ?_) (fun h => ?_)) <;> (try (exfalso; first | contradiction | omega | exact h Iff.rfl)) <;> refine go1l ?_))
        all_goals (first | (first | refine sl_skip ?_ | refine sl_skip_u ?_ | refine sl_take_g (h := runop_load_rdS k ((i - 1) * 3) _ hr (hp1 (by omega)).2.2 rfl) ?_) | ((refine sl_split 52 (fun h => ?_) (fun h => ?_)) <;> (try (exfalso; first | contradiction | omega | exact h Iff.rfl)) <;> (first | refine sl_skip ?_ | refine sl_skip_u ?_ | refine sl_take_g (h := runop_load_rdS k ((i - 1) * 3) _ hr (hp1 (by omega)).2.2 rfl) ?_)))
        all_goals (first | (first | refine sl_skip ?_ | refine sl_skip_u ?_ | refine sl_take_g (h := runop_sleq hbx.1 (hp1 (by omega)).2.1) ?_) | ((refine sl_split 52 (fun h => ?_) (fun h => ?_)) <;> (try (exfalso; first | contradiction | omega | exact h Iff.rfl)) <;> (first | refine sl_skip ?_ | refine sl_skip_u ?_ | refine sl_take_g (h := runop_sleq hbx.1 (hp1 (by omega)).2.1) ?_)))
        all_goals (first | refine go1l ?_ | ((refine sl_split 49 (fun h => ?_) (fun h => ?_)) <;> (try (exfalso; first | contradiction | omega | exact h Iff.rfl)) <;> refine go1l ?_))
        all_goals (first | refine go1l ?_ | ((refine sl_split 49 (fun h => ?_) (fun h => ?_)) <;> (try (exfalso; first | contradiction | omega | exact h Iff.rfl)) <;> refine go1l ?_))
        all_goals refine sl_done ?_
        all_goals (repeat' (first | with_reducible refine sw_in (by omega) ?_ | with_reducible (first | refine go1 ?_ | refine sct ?_ | refine scf ?_ | refine sgr ?_) | (with_reducible refine sc_cond (fun h => ?_) (fun h => ?_)) <;> (try (exfalso; first | contradiction | omega | exact h Iff.rfl)) | fail))
        all_goals first
        | (have h5 : ¬ (Stamp x.ts 1 ∧ okK pk x.key = true) := by
             first
             | (intro h9; exact absurd h9.1 (by assumption))
             | (rw [(hp1 (by omega)).1]; intro h9; exact h h9.2)
           rw [if_neg h5, if_pos (by decide)] at hg
           rw [hg]
           refine sq_ret1 Try.results39 ?_
           refine ⟨_, ⟨rfl, rfl⟩, ?_⟩
           repeat' (first | with_reducible exact Ent.refl _ | with_reducible refine Ent.take_eq ?_ ?_ | rfl | with_reducible refine Ent.oR ?_ | with_reducible refine Ent.trans (oR.drop _ _ _) ?_ | with_reducible refine Ent.trans (Ent.drop _ _) ?_)
           done)
        | (have h5 : Stamp x.ts 1 ∧ okK pk x.key = true := by
             refine ⟨Classical.not_not.1 (show ¬¬ Stamp x.ts 1 from by assumption), ?_⟩
             first
             | (rw [hp0 (by omega)]; rfl)
             | (rw [(hp1 (by omega)).1]; exact Classical.not_not.1 h)
           rw [if_pos h5, if_neg (by decide)] at hg
           refine sq_round ⟨i + 1, by omega, hg⟩ ?_ ?_ ?_
           · show l.length - (i + 1) < l.length - i
             omega
           · repeat' (first | exact says_nil | refine says_cons rfl ?_ | refine says_cons (by simp) ?_)
           · repeat' (first | with_reducible exact Ent.refl _ | with_reducible refine Ent.take_eq ?_ ?_ | rfl | with_reducible refine Ent.oR ?_ | with_reducible refine Ent.trans (oR.drop _ _ _) ?_ | with_reducible refine Ent.trans (Ent.drop _ _) ?_)
           done)
    · have hz : i = l.length := by omega
      rw [hf, chksAt_end (by omega)]
      repeat' (first | with_reducible (first | refine go1 ?_ | refine sct ?_ | refine scf ?_ | refine sgr ?_) | fail)
      refine sq_ret1 Try.results39 ?_
      refine ⟨_, ⟨rfl, rfl⟩, Ent.drop _ _⟩

section
variable (w : World)
set_option maxRecDepth 20000 in
theorem eqSp (d : Nat) (a b : ByteArray) (c : Int) (a' b' : ByteArray) (c' : Int) : (Op.equalIn (d + 2) 50 (.agg #[.string a, .string b, .int .i64 c]) (.agg #[.string a', .string b', .int .i64 c'])).run Try.prog w = .ok (a.toList == a'.toList && (b.toList == b'.toList && (c == c' && true))) w := by
  have hf := fieldsOf_und Try.underlying50
  rw [run_equalIn_struct w (d + 1) _ _ _ (by rw [hf]; exact Try.underlying50) (by kernel_rfl), hf]
  refine eqF_step w (by decide) (part_one w rfl) (part_one w rfl) (run_equalIn_string w d _ _ _ Try.underlying9) ?_
  refine eqF_step w (by decide) (part_one w rfl) (part_one w rfl) (run_equalIn_string w d _ _ _ Try.underlying9) ?_
  refine eqF_int w (by decide) Try.underlying2 rfl rfl ?_
  exact eqF_nil w _ _ _
end
instance Sp.eqAgg (a b : ByteArray) (c : Int) (a' b' : ByteArray) (c' : Int) : EqAgg Try.prog 50 [.string a, .string b, .int .i64 c] [.string a', .string b', .int .i64 c'] (a.toList == a'.toList && (b.toList == b'.toList && (c == c' && true))) where
  out := ⟨fun w => eqSp w 9998 a b c a' b' c', by kernel_rfl⟩
section
variable {ops : List Oper} {n : Nat} {w0 : World} {e : Env} {Rs : List Res} {ty : TypeId}
/-- x != y -/
theorem runop_spNe {x y : Operand} {t' : TypeId} (a b : Sp) (ha : Byt a.key ∧ Byt a.val) (hb : Byt b.key ∧ Byt b.val) [hx : Ev n e x (.agg a.cs.toArray)] [hy : Ev n e y (.agg b.cs.toArray)] :
    RunOp Try.prog n w0 e Rs (.binOp .neq 50 x y t') ty (.bool (!decide (a.key = b.key ∧ a.val = b.val ∧ a.ts = b.ts))) := by
  have h1 : RunOp Try.prog n w0 e Rs (.binOp .neq 50 x y t') ty (.bool (!((strB a.key).toList == (strB b.key).toList && ((strB a.val).toList == (strB b.val).toList && (a.ts == b.ts && true))))) := inferInstance
  have h2 : ((strB a.key).toList == (strB b.key).toList && ((strB a.val).toList == (strB b.val).toList && (a.ts == b.ts && true))) = decide (a.key = b.key ∧ a.val = b.val ∧ a.ts = b.ts) := by
    rw [strB_eq ha.1 hb.1, strB_eq ha.2 hb.2, int_beq]
    simp
  rw [h2] at h1
  exact h1
end
theorem Sp.ext3 {a b : Sp} (h : a.key = b.key ∧ a.val = b.val ∧ a.ts = b.ts) : a = b := by
  obtain ⟨k, v, t⟩ := a
  obtain ⟨k', v', t'⟩ := b
  simp only at h
  obtain ⟨rfl, rfl, rfl⟩ := h
  rfl

set_option maxHeartbeats 1000000 in
theorem r3SamePairs_ok (k1 k2 : Nat) (r1 r2 : HProp) (v1 v2 : Value) (l m : List Sp) (h1 : RdS r1 v1 l) (h2 : RdS r2 v2 m) (hb1 : SpsB l) (hb2 : SpsB m) (hl : l.length ≤ 4611686018427387904) : Spec Try.prog 19 [v1, v2] [k1, k2] [r1, r2]
    fun F w Rs' => (∃ y : Bool, (y = true ↔ l = m) ∧ w = .bool y) ∧ Rs' = (k1, r1) :: (k2, r2) :: F := by
  obtain ⟨a1, c1, rfl, hc1, hs1, hr1⟩ := h1
  obtain ⟨a2, c2, rfl, hc2, hs2, hr2⟩ := h2
  refine spec_of Try.func19 rfl Try.ntmps19 rfl ?_
  intro w0 F
  repeat' (first | with_reducible (first | refine go1 ?_ | refine sct ?_ | refine scf ?_ | refine sgr ?_) | (with_reducible refine sc_cond (fun h => ?_) (fun h => ?_)) <;> (try (exfalso; first | contradiction | omega | exact h Iff.rfl)) | fail)
  · refine sq_ret1 Try.results19 ?_
    refine ⟨_, ⟨⟨false, ⟨fun h9 => (by cases h9), fun h9 => (by rw [h9] at h; exact absurd rfl h)⟩, rfl⟩, rfl⟩, Ent.refl _⟩
  have hlen : l.length = m.length := by omega
  refine sc_loop (α := { i : Nat // i ≤ l.length ∧ l.take i = m.take i }) (fun i => [(0, .slice a1 l.length c1), (1, .slice a2 m.length c2), (5, .int .i64 (i.1 : Int))])
    (fun _ => (k1, r1) :: (k2, r2) :: F) (fun i => l.length - i.1) ⟨0, Nat.zero_le _, by simp⟩ ?_ ?_ ?_
  · repeat' (first | exact says_nil | refine says_cons rfl ?_ | refine says_cons (by simp) ?_)
  · exact Ent.refl _
  rintro ⟨i, hi, hf⟩ e
  (try simp only at hi hf)
  simp only [List.cons_append, List.nil_append]
  repeat' (first | with_reducible refine sw_in (by omega) ?_ | with_reducible (first | refine go1 ?_ | refine sct ?_ | refine scf ?_ | refine sgr ?_) | (with_reducible refine sc_cond (fun h => ?_) (fun h => ?_)) <;> (try (exfalso; first | contradiction | omega | exact h Iff.rfl)) | fail)
  · have hi1 : i < l.length := by omega
    have hi2 : i < m.length := by omega
    obtain ⟨b1, o1, rfl⟩ := hs1 (by omega)
    obtain ⟨b2, o2, rfl⟩ := hs2 (by omega)
    have hx1 := hb1 _ (List.getElem_mem hi1)
    have hx2 := hb2 _ (List.getElem_mem hi2)
    refine sc_lin ([(k1, r1), (k2, r2)]) (llp 0 (llp 1 (llp 2 (llp 3 (llp 4 (llp 5 (llp 6 (llp 7 (llp 8 ll0))))))))) (by kernel_rfl) rfl (by kernel_rfl) ?_
    all_goals (iterate 2 refine go1l ?_)
    all_goals refine sl_take (h := runop_indexN i ⟨rfl, hi1⟩) ?_
    all_goals refine sl_take (h := runop_load_aggR k1 (i * 3) l[i].cs hr1 rfl (spC_elem hi1) rfl) ?_
    all_goals (iterate 2 refine go1l ?_)
    all_goals refine sl_take (h := runop_indexN i ⟨rfl, hi2⟩) ?_
    all_goals refine sl_take (h := runop_load_aggR k2 (i * 3) m[i].cs hr2 rfl (spC_elem hi2) rfl) ?_
    all_goals refine sl_take (h := runop_spNe l[i] m[i] hx1 hx2) ?_
    all_goals refine sl_done ?_
    repeat' (first | with_reducible refine sw_in (by omega) ?_ | with_reducible (first | refine go1 ?_ | refine sct ?_ | refine scf ?_ | refine sgr ?_) | (with_reducible refine sc_cond (fun h => ?_) (fun h => ?_)) <;> (try (exfalso; first | contradiction | omega | exact h Iff.rfl)) | fail)
    · refine sq_ret1 Try.results19 ?_
      refine ⟨_, ⟨⟨false, ⟨fun h9 => (by cases h9), fun h9 => ?_⟩, rfl⟩, rfl⟩, Ent.refl _⟩
      exfalso
      subst h9
      exact h ⟨rfl, rfl, rfl⟩
    · have he : l[i] = m[i] := Sp.ext3 (Classical.not_not.1 h)
      refine sq_round ⟨i + 1, by omega, ?_⟩ ?_ ?_ ?_
      · rw [List.take_add_one, List.take_add_one, List.getElem?_eq_getElem hi1, List.getElem?_eq_getElem hi2, hf, he]
      · show l.length - (i + 1) < l.length - i
        omega
      · repeat' (first | exact says_nil | refine says_cons rfl ?_ | refine says_cons (by simp) ?_)
      · exact Ent.refl _
  · have hz : i = l.length := by omega
    repeat' (first | with_reducible (first | refine go1 ?_ | refine sct ?_ | refine scf ?_ | refine sgr ?_) | fail)
    refine sq_ret1 Try.results19 ?_
    refine ⟨_, ⟨⟨true, ⟨fun _ => ?_, fun _ => rfl⟩, rfl⟩, rfl⟩, Ent.refl _⟩
    rw [hz, List.take_length, hlen, List.take_length] at hf
    exact hf
end Go.Gsl

namespace Go.Gsl
set_option linter.unusedVariables false
open Go.Proofs

theorem Sp.chk_one (x : Sp) : (⟨0, false, [x]⟩ : Ck).chk = x.chk true := by
  have h : (⟨0, false, [x]⟩ : Ck).chk = if x.chk true ≠ 0 then x.chk true else 0 := rfl
  rw [h]
  split <;> omega
theorem r3Check1_ok (b : Nat) (x : Sp) (hx : Byt x.key ∧ Byt x.val) : Spec Try.prog 39 [.agg (ckV 0 (.slice (some ⟨b, 0, none⟩) 1 1) false).toArray] [b] [pts b (.cells x.cs.toArray 50 (0, 0))] fun F w Rs' => w = .int .i64 (x.chk true) ∧ Rs' = (b, pts b (.cells x.cs.toArray 50 (0, 0))) :: F := by
  have h := r3CheckChunk_ok b (pts b (.cells (spC [x]).toArray 50 (0, 0))) (.slice (some ⟨b, 0, none⟩) 1 1) ⟨0, false, [x]⟩ (RdS.own0 (l := [x]) (Nat.le_refl _)) (fun y hy => by rw [List.mem_singleton.1 hy]; exact hx) (by simp only [List.length_singleton]; omega)
  rw [Sp.chk_one] at h
  exact h

/-- one more pair, if it may follow -/
def rise1 (most : Nat) (out : List Sp) (x : Sp) : List Sp := if out.length < most ∧ x.chk true = 0 ∧ okK (out.getLast?.map Sp.key) x.key = true then out ++ [x] else out
def riseL (most : Nat) (l : List Sp) : List Sp := l.foldl (rise1 most) []
theorem rise1_ok {most : Nat} {out : List Sp} {x : Sp} (h : Rise out ∧ out.length ≤ most) : Rise (rise1 most out x) ∧ (rise1 most out x).length ≤ most := by
  unfold rise1
  split
  · rename_i h1
    refine ⟨⟨fun y hy => ?_, ?_⟩, by rw [List.length_append, List.length_singleton]; omega⟩
    · rcases List.mem_append.1 hy with hy | hy
      · exact h.1.1 y hy
      · rw [List.mem_singleton.1 hy]; exact Sp.chk_true.1 h1.2.1
    · refine List.pairwise_append.2 ⟨h.1.2, List.pairwise_singleton _ _, fun a ha b hb => ?_⟩
      rw [List.mem_singleton.1 hb]
      have h2 := h1.2.2
      rcases List.eq_nil_or_concat out with h3 | ⟨l', z, h3⟩
      · rw [h3] at ha; cases ha
      · rw [List.concat_eq_append] at h3
        subst h3
        rw [List.getLast?_append] at h2
        have h4 : lessB z.key x.key = true := by simpa [okK] using h2
        rcases List.mem_append.1 ha with ha | ha
        · exact lessB_trans _ _ _ ((List.pairwise_append.1 h.1.2).2.2 a ha z (by simp)) h4
        · rw [List.mem_singleton.1 ha]; exact h4
  · exact h
theorem rise1_mem {most : Nat} {out : List Sp} {x y : Sp} (h : y ∈ rise1 most out x) : y ∈ out ∨ y = x := by
  unfold rise1 at h
  split at h
  · rcases List.mem_append.1 h with h | h
    · exact .inl h
    · exact .inr (List.mem_singleton.1 h)
  · exact .inl h
theorem foldRise_ok {most : Nat} : ∀ (l out : List Sp), Rise out ∧ out.length ≤ most → Rise (l.foldl (rise1 most) out) ∧ (l.foldl (rise1 most) out).length ≤ most
  | [], _, h => h
  | _ :: l, _, h => foldRise_ok l _ (rise1_ok h)
theorem foldRise_mem {most : Nat} {y : Sp} : ∀ (l out : List Sp), y ∈ l.foldl (rise1 most) out → y ∈ out ∨ y ∈ l
  | [], _, h => .inl h
  | x :: l, out, h => by
    rcases foldRise_mem l _ h with h | h
    · rcases rise1_mem h with h | h
      · exact .inl h
      · rw [h]; exact .inr (by simp)
    · exact .inr (by simp [h])
theorem riseL_ok (most : Nat) (l : List Sp) : Rise (riseL most l) ∧ (riseL most l).length ≤ most := foldRise_ok l [] ⟨⟨fun x hx => (by cases hx), List.Pairwise.nil⟩, Nat.zero_le _⟩
theorem riseL_mem {most : Nat} {l : List Sp} {y : Sp} (h : y ∈ riseL most l) : y ∈ l := by
  rcases foldRise_mem l [] h with h | h
  · cases h
  · exact h



set_option maxHeartbeats 4000000 in
theorem l19rising_ok (k : Nat) (r : HProp) (v : Value) (l : List Sp) (most : Nat) (hv : RdS r v l) (hb : SpsB l) (hl : l.length ≤ 9223372036854775807) (hm : most ≤ 1000) : Spec Try.prog 17 [v, .int .i64 (most : Int)] [k] [r]
    fun F w Rs' => ∃ q, NOk 3 (spC (riseL most l)) (riseL most l).length q ∧ w = nV (riseL most l).length q ∧ Rs' = oR (SpG (riseL most l)) ((k, r) :: F) q := by
  obtain ⟨a, cp, rfl, hc, hsome, hr⟩ := hv
  have hz : NOk 3 (spC []) ([] : List Sp).length none := ⟨rfl, fun _ => ⟨rfl, rfl⟩, fun b c t h => (by cases h)⟩
  refine spec_of Try.func17 rfl Try.ntmps17 rfl ?_
  intro w0 F
  repeat' (first | with_reducible (first | refine go1 ?_ | refine sct ?_ | refine scf ?_ | refine sgr ?_) | fail)
  refine sc_loop (α := { x : Nat × List Sp × Option (Nat × Nat × List Value) // x.1 ≤ l.length ∧ NOk 3 (spC x.2.1) x.2.1.length x.2.2 ∧ x.2.1 = (l.take x.1).foldl (rise1 most) [] })
    (fun x => [(1, .int .i64 (most : Int)), (5, nV x.1.2.1.length x.1.2.2), (8, .slice a l.length cp), (9, .int .i64 (l.length : Int)), (10, .int .i64 (x.1.1 : Int))])
    (fun x => oR (SpG x.1.2.1) ((k, r) :: F) x.1.2.2) (fun x => l.length - x.1.1) ⟨(0, [], none), Nat.zero_le _, hz, by simp⟩ ?_ ?_ ?_
  · repeat' (first | exact says_nil | refine says_cons rfl ?_ | refine says_cons (by simp) ?_)
  · show Ent _ ((k, r) :: F)
    repeat' (first | with_reducible exact Ent.refl _ | with_reducible refine Ent.take_eq ?_ ?_ | rfl | with_reducible refine Ent.oR ?_ | with_reducible refine Ent.trans (oR.drop _ _ _) ?_ | with_reducible refine Ent.trans (Ent.drop _ _) ?_)
  rintro ⟨⟨i, out, o⟩, hx⟩ e
  obtain ⟨hi, ho, hou⟩ := hx
  (try simp only at hi ho hou)
  simp only [List.cons_append, List.nil_append]
  have hok := foldRise_ok (most := most) (l.take i) [] ⟨⟨fun x hx => (by cases hx), List.Pairwise.nil⟩, Nat.zero_le _⟩
  rw [← hou] at hok
  have hob : SpsB out := fun y hy => by
    rw [hou] at hy
    rcases foldRise_mem _ _ hy with h | h
    · cases h
    · exact hb y (List.mem_of_mem_take h)
  repeat' (first | with_reducible refine sw_in (by omega) ?_ | with_reducible (first | refine go1 ?_ | refine sct ?_ | refine scf ?_ | refine sgr ?_) | (with_reducible refine sc_cond (fun h => ?_) (fun h => ?_)) <;> (try (exfalso; first | contradiction | omega | exact h Iff.rfl)) | fail)
  · have hi2 : i < l.length := by omega
    obtain ⟨b, oo, rfl⟩ := hsome (by omega)
    have hel := spC_elem hi2
    have hbx := hb l[i] (List.getElem_mem hi2)
    have hst : (l.take (i + 1)).foldl (rise1 most) [] = rise1 most out l[i] := by
      rw [List.take_add_one, List.getElem?_eq_getElem hi2, Option.toList_some, List.foldl_append, ← hou]
      rfl
    generalize l[i] = x at *
    refine sw_indexN i ⟨rfl, hi2⟩ ?_
    refine sw_load_aggR k (i * 3) x.cs hr rfl hel rfl ?_
    refine sw_alloc fun b7 => ?_
    refine sw_store_agg ?_
    repeat' (first | with_reducible (first | refine go1 ?_ | refine sct ?_ | refine scf ?_ | refine sgr ?_) | fail)
    unfold rise1 at hst
    cases o with
    | none =>
      have ho1 : out = [] := List.length_eq_zero_iff.1 (ho.2.1 rfl).2
      subst ho1
      have hl0 : ([] : List Sp).length = 0 := rfl
      have hlast : 0 < ([] : List Sp).length → (([] : List Sp).getLast?.map Sp.key) = some [] := fun h => (by simp at h)
      have hnil : ([] : List Sp).length = 0 → (([] : List Sp).getLast?.map Sp.key) = none := fun _ => rfl
      rw [nG_none, show nV ([] : List Sp).length none = .slice none 0 0 from rfl]
      refine sc_lin ([(b7, pts b7 (.cells x.cs.toArray 50 (0, 0)))]) (llp 0 (llp 1 (llp 2 (llp 3 (llp 4 (llp 5 (lle 6 (llp 7 (lle 8 (llp 9 (llp 10 (llp 11 (llp 12 (llp 13 (llp 14 (llp 15 (llp 16 (llp 17 (llp 18 (llp 19 (llp 20 (llp 21 (llp 22 (llp 23 (llp 24 (llp 25 (llp 26 (llp 27 ll0)))))))))))))))))))))))))))) (by kernel_rfl) rfl (by kernel_rfl) ?_
      all_goals (iterate 5 refine go1l ?_)
      all_goals (first | refine go1l ?_ | ((refine sl_split 18 (fun h => ?_) (fun h => ?_)) <;> (try (exfalso; first | contradiction | omega | exact h Iff.rfl)) <;> refine go1l ?_))
      all_goals refine sl_eff ?_
      all_goals (repeat' (first | with_reducible (first | refine go1 ?_ | refine sct ?_ | refine scf ?_ | refine sgr ?_) | with_reducible refine sw_buildSliceN x.cs ⟨by omega, by omega, by omega⟩ (by kernel_rfl) fun b3 => ?_ | ((with_reducible refine sw_callf (r3Check1_ok b3 x hbx) ?_); rintro _ _ ⟨rfl, rfl⟩) | with_reducible refine sl_back ?_ | fail))
      all_goals (first | (first | refine sl_skip ?_ | refine sl_skip_u ?_ | refine sl_take_g (h := runop_buildR (ckV 0 (.slice (some ⟨b3, 0, none⟩) 1 1) false) (by kernel_rfl)) ?_) | ((refine sl_split 18 (fun h => ?_) (fun h => ?_)) <;> (try (exfalso; first | contradiction | omega | exact h Iff.rfl)) <;> (first | refine sl_skip ?_ | refine sl_skip_u ?_ | refine sl_take_g (h := runop_buildR (ckV 0 (.slice (some ⟨b3, 0, none⟩) 1 1) false) (by kernel_rfl)) ?_)))
      all_goals refine sl_eff ?_
      all_goals (repeat' (first | with_reducible (first | refine go1 ?_ | refine sct ?_ | refine scf ?_ | refine sgr ?_) | with_reducible refine sw_buildSliceN x.cs ⟨by omega, by omega, by omega⟩ (by kernel_rfl) fun b3 => ?_ | ((with_reducible refine sw_callf (r3Check1_ok b3 x hbx) ?_); rintro _ _ ⟨rfl, rfl⟩) | with_reducible refine sl_back ?_ | fail))
      all_goals (first | refine go1l ?_ | ((refine sl_split 18 (fun h => ?_) (fun h => ?_)) <;> (try (exfalso; first | contradiction | omega | exact h Iff.rfl)) <;> refine go1l ?_))
      all_goals (first | refine go1l ?_ | ((refine sl_split 18 (fun h => ?_) (fun h => ?_)) <;> (try (exfalso; first | contradiction | omega | exact h Iff.rfl)) <;> refine go1l ?_))
      all_goals refine go1l ?_
      all_goals (first | refine go1l ?_ | ((refine sl_split 25 (fun h => ?_) (fun h => ?_)) <;> (try (exfalso; first | contradiction | omega | exact h Iff.rfl)) <;> refine go1l ?_))
      all_goals (first | refine go1l ?_ | ((refine sl_split 25 (fun h => ?_) (fun h => ?_)) <;> (try (exfalso; first | contradiction | omega | exact h Iff.rfl)) <;> refine go1l ?_))
      all_goals (first | refine go1l ?_ | ((refine sl_split 25 (fun h => ?_) (fun h => ?_)) <;> (try (exfalso; first | contradiction | omega | exact h Iff.rfl)) <;> refine go1l ?_))
      all_goals (first | refine go1l ?_ | ((refine sl_split 25 (fun h => ?_) (fun h => ?_)) <;> (try (exfalso; first | contradiction | omega | exact h Iff.rfl)) <;> refine go1l ?_))
      all_goals (first | refine go1l ?_ | ((refine sl_split 29 (fun h => ?_) (fun h => ?_)) <;> (try (exfalso; first | contradiction | omega | exact h Iff.rfl)) <;> refine go1l ?_))
      all_goals (first | refine go1l ?_ | ((refine sl_split 29 (fun h => ?_) (fun h => ?_)) <;> (try (exfalso; first | contradiction | omega | exact h Iff.rfl)) <;> refine go1l ?_))
      all_goals (first | refine go1l ?_ | ((refine sl_split 29 (fun h => ?_) (fun h => ?_)) <;> (try (exfalso; first | contradiction | omega | exact h Iff.rfl)) <;> refine go1l ?_))
      all_goals (first | (first | refine sl_in_g (by omega) ?_ | refine go1l ?_) | ((refine sl_split 29 (fun h => ?_) (fun h => ?_)) <;> (try (exfalso; first | contradiction | omega | exact h Iff.rfl)) <;> (first | refine sl_in_g (by omega) ?_ | refine go1l ?_)))
      all_goals (first | (first | refine sl_skip ?_ | refine sl_skip_u ?_ | refine sl_take_g (h := runop_indexN (out.length - 1) ⟨by omega, by omega⟩) ?_) | ((refine sl_split 29 (fun h => ?_) (fun h => ?_)) <;> (try (exfalso; first | contradiction | omega | exact h Iff.rfl)) <;> (first | refine sl_skip ?_ | refine sl_skip_u ?_ | refine sl_take_g (h := runop_indexN (out.length - 1) ⟨by omega, by omega⟩) ?_)))
      all_goals (first | refine go1l ?_ | ((refine sl_split 29 (fun h => ?_) (fun h => ?_)) <;> (try (exfalso; first | contradiction | omega | exact h Iff.rfl)) <;> refine go1l ?_))
      all_goals (first | (first | refine sl_skip ?_ | refine sl_skip_u ?_ | refine sl_take_g (h := runop_load_rdS bo ((out.length - 1) * 3) (.string (strB out[out.length - 1].key)) hro (spC_key (i := out.length - 1) (by omega)) rfl) ?_) | ((refine sl_split 29 (fun h => ?_) (fun h => ?_)) <;> (try (exfalso; first | contradiction | omega | exact h Iff.rfl)) <;> (first | refine sl_skip ?_ | refine sl_skip_u ?_ | refine sl_take_g (h := runop_load_rdS bo ((out.length - 1) * 3) (.string (strB out[out.length - 1].key)) hro (spC_key (i := out.length - 1) (by omega)) rfl) ?_)))
      all_goals (first | refine go1l ?_ | ((refine sl_split 29 (fun h => ?_) (fun h => ?_)) <;> (try (exfalso; first | contradiction | omega | exact h Iff.rfl)) <;> refine go1l ?_))
      all_goals (first | refine go1l ?_ | ((refine sl_split 29 (fun h => ?_) (fun h => ?_)) <;> (try (exfalso; first | contradiction | omega | exact h Iff.rfl)) <;> refine go1l ?_))
      all_goals (first | (first | refine sl_skip ?_ | refine sl_skip_u ?_ | refine sl_take_g (h := runop_slss (hob _ (List.getElem_mem _)).1 hbx.1) ?_) | ((refine sl_split 29 (fun h => ?_) (fun h => ?_)) <;> (try (exfalso; first | contradiction | omega | exact h Iff.rfl)) <;> (first | refine sl_skip ?_ | refine sl_skip_u ?_ | refine sl_take_g (h := runop_slss (hob _ (List.getElem_mem _)).1 hbx.1) ?_)))
      all_goals (first | refine go1l ?_ | ((refine sl_split 25 (fun h => ?_) (fun h => ?_)) <;> (try (exfalso; first | contradiction | omega | exact h Iff.rfl)) <;> refine go1l ?_))
      all_goals (first | refine go1l ?_ | ((refine sl_split 25 (fun h => ?_) (fun h => ?_)) <;> (try (exfalso; first | contradiction | omega | exact h Iff.rfl)) <;> refine go1l ?_))
      all_goals refine sl_done ?_
      all_goals (repeat' (first | with_reducible refine sw_in (by omega) ?_ | with_reducible (first | refine go1 ?_ | refine sct ?_ | refine scf ?_ | refine sgr ?_) | (with_reducible refine sc_cond (fun h => ?_) (fun h => ?_)) <;> (try (exfalso; first | contradiction | omega | exact h Iff.rfl)) | fail))
      all_goals first
      | (rw [if_pos (by
           refine ⟨by omega, by assumption, ?_⟩
           first
           | rfl
           | (rw [hlast (by omega)]; show lessB _ _ = true; assumption)
           | (rw [hnil (by omega)]; rfl))] at hst
         repeat' (first | with_reducible (first | refine go1 ?_ | refine sct ?_ | refine scf ?_ | refine sgr ?_) | fail)
         refine sw_buildSliceN x.cs ⟨by omega, by omega, by omega⟩ (by kernel_rfl) fun b4 => ?_
         refine sw_appendNV (nb := 40) (spC (([] : List Sp))) x.cs (([] : List Sp)).length none ho (sp_one _ _ _) rfl (by omega) ⟨rfl, by omega, by omega⟩ fun o4 hne ho4 => ?_
         have hcs : spC (([] : List Sp)) ++ x.cs = spC ((([] : List Sp)) ++ [x]) := by rw [spC_app]; rfl
         have hln : (([] : List Sp)).length + 1 = ((([] : List Sp)) ++ [x]).length := by simp
         rw [hcs] at ho4 ⊢
         rw [hln] at ho4 ⊢
         repeat' (first | with_reducible refine sw_in (by omega) ?_ | with_reducible (first | refine go1 ?_ | refine sct ?_ | refine scf ?_ | refine sgr ?_) | fail)
         refine sq_round ⟨(i + 1, (([] : List Sp)) ++ [x], o4), by simp only; omega, ho4, hst.symm⟩ ?_ ?_ ?_
         · show l.length - (i + 1) < l.length - i
           omega
         · repeat' (first | exact says_nil | refine says_cons rfl ?_ | refine says_cons (by simp) ?_)
         · dsimp only
           repeat' (first | with_reducible exact Ent.refl _ | with_reducible refine Ent.take_eq ?_ ?_ | rfl | with_reducible refine Ent.oR ?_ | with_reducible refine Ent.trans (oR.drop _ _ _) ?_ | with_reducible refine Ent.trans (Ent.drop _ _) ?_)
         done)
      | (rw [if_neg (by
           rintro ⟨h7, h8, h9⟩
           first
           | omega
           | exact absurd h8 (by assumption)
           | (rw [hlast (by omega)] at h9; exact absurd (show lessB _ _ = true from h9) (by assumption)))] at hst
         repeat' (first | with_reducible refine sw_in (by omega) ?_ | with_reducible (first | refine go1 ?_ | refine sct ?_ | refine scf ?_ | refine sgr ?_) | fail)
         refine sq_round ⟨(i + 1, (([] : List Sp)), none), by simp only; omega, ho, hst.symm⟩ ?_ ?_ ?_
         · show l.length - (i + 1) < l.length - i
           omega
         · repeat' (first | exact says_nil | refine says_cons rfl ?_ | refine says_cons (by simp) ?_)
         · dsimp only
           repeat' (first | with_reducible exact Ent.refl _ | with_reducible refine Ent.take_eq ?_ ?_ | rfl | with_reducible refine Ent.oR ?_ | with_reducible refine Ent.trans (oR.drop _ _ _) ?_ | with_reducible refine Ent.trans (Ent.drop _ _) ?_)
         done)
    | some y =>
      obtain ⟨bo, c3, t3⟩ := y
      have hro : Reads (pts bo (.cells (spC out ++ t3).toArray 50 (0, 0))) (some ⟨bo, 0, none⟩) (spC out) := reads_own
      have hnil : out.length = 0 → (out.getLast?.map Sp.key) = none := fun h => by rw [List.length_eq_zero_iff.1 h]; rfl
      rw [nG_some, show nV out.length (some (bo, c3, t3)) = .slice (some ⟨bo, 0, none⟩) out.length c3 from rfl]
      rcases Nat.eq_zero_or_pos out.length with hq0 | hq0
      · have hlast : 0 < out.length → (out.getLast?.map Sp.key) = some [] := fun h => by omega
        refine sc_lin ([(b7, pts b7 (.cells x.cs.toArray 50 (0, 0))), (bo, pts bo (.cells (spC out ++ t3).toArray 50 (0, 0)))]) (llp 0 (llp 1 (llp 2 (llp 3 (llp 4 (llp 5 (lle 6 (llp 7 (lle 8 (llp 9 (llp 10 (llp 11 (llp 12 (llp 13 (llp 14 (llp 15 (llp 16 (llp 17 (llp 18 (llp 19 (llp 20 (llp 21 (llp 22 (llp 23 (llp 24 (llp 25 (llp 26 (llp 27 ll0)))))))))))))))))))))))))))) (by kernel_rfl) rfl (by kernel_rfl) ?_
        all_goals (iterate 5 refine go1l ?_)
        all_goals (first | refine go1l ?_ | ((refine sl_split 18 (fun h => ?_) (fun h => ?_)) <;> (try (exfalso; first | contradiction | omega | exact h Iff.rfl)) <;> refine go1l ?_))
        all_goals refine sl_eff ?_
        all_goals (repeat' (first | with_reducible (first | refine go1 ?_ | refine sct ?_ | refine scf ?_ | refine sgr ?_) | with_reducible refine sw_buildSliceN x.cs ⟨by omega, by omega, by omega⟩ (by kernel_rfl) fun b3 => ?_ | ((with_reducible refine sw_callf (r3Check1_ok b3 x hbx) ?_); rintro _ _ ⟨rfl, rfl⟩) | with_reducible refine sl_back ?_ | fail))
        all_goals (first | (first | refine sl_skip ?_ | refine sl_skip_u ?_ | refine sl_take_g (h := runop_buildR (ckV 0 (.slice (some ⟨b3, 0, none⟩) 1 1) false) (by kernel_rfl)) ?_) | ((refine sl_split 18 (fun h => ?_) (fun h => ?_)) <;> (try (exfalso; first | contradiction | omega | exact h Iff.rfl)) <;> (first | refine sl_skip ?_ | refine sl_skip_u ?_ | refine sl_take_g (h := runop_buildR (ckV 0 (.slice (some ⟨b3, 0, none⟩) 1 1) false) (by kernel_rfl)) ?_)))
        all_goals refine sl_eff ?_
        all_goals (repeat' (first | with_reducible (first | refine go1 ?_ | refine sct ?_ | refine scf ?_ | refine sgr ?_) | with_reducible refine sw_buildSliceN x.cs ⟨by omega, by omega, by omega⟩ (by kernel_rfl) fun b3 => ?_ | ((with_reducible refine sw_callf (r3Check1_ok b3 x hbx) ?_); rintro _ _ ⟨rfl, rfl⟩) | with_reducible refine sl_back ?_ | fail))
        all_goals (first | refine go1l ?_ | ((refine sl_split 18 (fun h => ?_) (fun h => ?_)) <;> (try (exfalso; first | contradiction | omega | exact h Iff.rfl)) <;> refine go1l ?_))
        all_goals (first | refine go1l ?_ | ((refine sl_split 18 (fun h => ?_) (fun h => ?_)) <;> (try (exfalso; first | contradiction | omega | exact h Iff.rfl)) <;> refine go1l ?_))
        all_goals refine go1l ?_
        all_goals (first | refine go1l ?_ | ((refine sl_split 25 (fun h => ?_) (fun h => ?_)) <;> (try (exfalso; first | contradiction | omega | exact h Iff.rfl)) <;> refine go1l ?_))
        all_goals (first | refine go1l ?_ | ((refine sl_split 25 (fun h => ?_) (fun h => ?_)) <;> (try (exfalso; first | contradiction | omega | exact h Iff.rfl)) <;> refine go1l ?_))
        all_goals (first | refine go1l ?_ | ((refine sl_split 25 (fun h => ?_) (fun h => ?_)) <;> (try (exfalso; first | contradiction | omega | exact h Iff.rfl)) <;> refine go1l ?_))
        all_goals (first | refine go1l ?_ | ((refine sl_split 25 (fun h => ?_) (fun h => ?_)) <;> (try (exfalso; first | contradiction | omega | exact h Iff.rfl)) <;> refine go1l ?_))
        all_goals (first | refine go1l ?_ | ((refine sl_split 29 (fun h => ?_) (fun h => ?_)) <;> (try (exfalso; first | contradiction | omega | exact h Iff.rfl)) <;> refine go1l ?_))
        all_goals (first | refine go1l ?_ | ((refine sl_split 29 (fun h => ?_) (fun h => ?_)) <;> (try (exfalso; first | contradiction | omega | exact h Iff.rfl)) <;> refine go1l ?_))
        all_goals (first | refine go1l ?_ | ((refine sl_split 29 (fun h => ?_) (fun h => ?_)) <;> (try (exfalso; first | contradiction | omega | exact h Iff.rfl)) <;> refine go1l ?_))
        all_goals (first | (first | refine sl_in_g (by omega) ?_ | refine go1l ?_) | ((refine sl_split 29 (fun h => ?_) (fun h => ?_)) <;> (try (exfalso; first | contradiction | omega | exact h Iff.rfl)) <;> (first | refine sl_in_g (by omega) ?_ | refine go1l ?_)))
        all_goals (first | (first | refine sl_skip ?_ | refine sl_skip_u ?_ | refine sl_take_g (h := runop_indexN (out.length - 1) ⟨by omega, by omega⟩) ?_) | ((refine sl_split 29 (fun h => ?_) (fun h => ?_)) <;> (try (exfalso; first | contradiction | omega | exact h Iff.rfl)) <;> (first | refine sl_skip ?_ | refine sl_skip_u ?_ | refine sl_take_g (h := runop_indexN (out.length - 1) ⟨by omega, by omega⟩) ?_)))
        all_goals (first | refine go1l ?_ | ((refine sl_split 29 (fun h => ?_) (fun h => ?_)) <;> (try (exfalso; first | contradiction | omega | exact h Iff.rfl)) <;> refine go1l ?_))
        all_goals (first | (first | refine sl_skip ?_ | refine sl_skip_u ?_ | refine sl_take_g (h := runop_load_rdS bo ((out.length - 1) * 3) (.string (strB out[out.length - 1].key)) hro (spC_key (i := out.length - 1) (by omega)) rfl) ?_) | ((refine sl_split 29 (fun h => ?_) (fun h => ?_)) <;> (try (exfalso; first | contradiction | omega | exact h Iff.rfl)) <;> (first | refine sl_skip ?_ | refine sl_skip_u ?_ | refine sl_take_g (h := runop_load_rdS bo ((out.length - 1) * 3) (.string (strB out[out.length - 1].key)) hro (spC_key (i := out.length - 1) (by omega)) rfl) ?_)))
        all_goals (first | refine go1l ?_ | ((refine sl_split 29 (fun h => ?_) (fun h => ?_)) <;> (try (exfalso; first | contradiction | omega | exact h Iff.rfl)) <;> refine go1l ?_))
        all_goals (first | refine go1l ?_ | ((refine sl_split 29 (fun h => ?_) (fun h => ?_)) <;> (try (exfalso; first | contradiction | omega | exact h Iff.rfl)) <;> refine go1l ?_))
        all_goals (first | (first | refine sl_skip ?_ | refine sl_skip_u ?_ | refine sl_take_g (h := runop_slss (hob _ (List.getElem_mem _)).1 hbx.1) ?_) | ((refine sl_split 29 (fun h => ?_) (fun h => ?_)) <;> (try (exfalso; first | contradiction | omega | exact h Iff.rfl)) <;> (first | refine sl_skip ?_ | refine sl_skip_u ?_ | refine sl_take_g (h := runop_slss (hob _ (List.getElem_mem _)).1 hbx.1) ?_)))
        all_goals (first | refine go1l ?_ | ((refine sl_split 25 (fun h => ?_) (fun h => ?_)) <;> (try (exfalso; first | contradiction | omega | exact h Iff.rfl)) <;> refine go1l ?_))
        all_goals (first | refine go1l ?_ | ((refine sl_split 25 (fun h => ?_) (fun h => ?_)) <;> (try (exfalso; first | contradiction | omega | exact h Iff.rfl)) <;> refine go1l ?_))
        all_goals refine sl_done ?_
        all_goals (repeat' (first | with_reducible refine sw_in (by omega) ?_ | with_reducible (first | refine go1 ?_ | refine sct ?_ | refine scf ?_ | refine sgr ?_) | (with_reducible refine sc_cond (fun h => ?_) (fun h => ?_)) <;> (try (exfalso; first | contradiction | omega | exact h Iff.rfl)) | fail))
        all_goals first
        | (rw [if_pos (by
             refine ⟨by omega, by assumption, ?_⟩
             first
             | rfl
             | (rw [hlast (by omega)]; show lessB _ _ = true; assumption)
             | (rw [hnil (by omega)]; rfl))] at hst
           repeat' (first | with_reducible (first | refine go1 ?_ | refine sct ?_ | refine scf ?_ | refine sgr ?_) | fail)
           refine sw_buildSliceN x.cs ⟨by omega, by omega, by omega⟩ (by kernel_rfl) fun b4 => ?_
           refine sw_appendNV (nb := 40) (spC (out)) x.cs (out).length (some (bo, c3, t3)) ho (sp_one _ _ _) rfl (by omega) ⟨rfl, by omega, by omega⟩ fun o4 hne ho4 => ?_
           have hcs : spC (out) ++ x.cs = spC ((out) ++ [x]) := by rw [spC_app]; rfl
           have hln : (out).length + 1 = ((out) ++ [x]).length := by simp
           rw [hcs] at ho4 ⊢
           rw [hln] at ho4 ⊢
           repeat' (first | with_reducible refine sw_in (by omega) ?_ | with_reducible (first | refine go1 ?_ | refine sct ?_ | refine scf ?_ | refine sgr ?_) | fail)
           refine sq_round ⟨(i + 1, (out) ++ [x], o4), by simp only; omega, ho4, hst.symm⟩ ?_ ?_ ?_
           · show l.length - (i + 1) < l.length - i
             omega
           · repeat' (first | exact says_nil | refine says_cons rfl ?_ | refine says_cons (by simp) ?_)
           · dsimp only
             repeat' (first | with_reducible exact Ent.refl _ | with_reducible refine Ent.take_eq ?_ ?_ | rfl | with_reducible refine Ent.oR ?_ | with_reducible refine Ent.trans (oR.drop _ _ _) ?_ | with_reducible refine Ent.trans (Ent.drop _ _) ?_)
           done)
        | (rw [if_neg (by
             rintro ⟨h7, h8, h9⟩
             first
             | omega
             | exact absurd h8 (by assumption)
             | (rw [hlast (by omega)] at h9; exact absurd (show lessB _ _ = true from h9) (by assumption)))] at hst
           repeat' (first | with_reducible refine sw_in (by omega) ?_ | with_reducible (first | refine go1 ?_ | refine sct ?_ | refine scf ?_ | refine sgr ?_) | fail)
           refine sq_round ⟨(i + 1, (out), (some (bo, c3, t3))), by simp only; omega, ho, hst.symm⟩ ?_ ?_ ?_
           · show l.length - (i + 1) < l.length - i
             omega
           · repeat' (first | exact says_nil | refine says_cons rfl ?_ | refine says_cons (by simp) ?_)
           · dsimp only
             repeat' (first | with_reducible exact Ent.refl _ | with_reducible refine Ent.take_eq ?_ ?_ | rfl | with_reducible refine Ent.oR ?_ | with_reducible refine Ent.trans (oR.drop _ _ _) ?_ | with_reducible refine Ent.trans (Ent.drop _ _) ?_)
           done)
      · have hlast : ∀ _ : 0 < out.length, (out.getLast?.map Sp.key) = some out[out.length - 1].key := fun h => by
          rw [List.getLast?_eq_getElem?, List.getElem?_eq_getElem]
          rfl
        refine sc_lin ([(b7, pts b7 (.cells x.cs.toArray 50 (0, 0))), (bo, pts bo (.cells (spC out ++ t3).toArray 50 (0, 0)))]) (llp 0 (llp 1 (llp 2 (llp 3 (llp 4 (llp 5 (lle 6 (llp 7 (lle 8 (llp 9 (llp 10 (llp 11 (llp 12 (llp 13 (llp 14 (llp 15 (llp 16 (llp 17 (llp 18 (llp 19 (llp 20 (llp 21 (llp 22 (llp 23 (llp 24 (llp 25 (llp 26 (llp 27 ll0)))))))))))))))))))))))))))) (by kernel_rfl) rfl (by kernel_rfl) ?_
        all_goals (iterate 5 refine go1l ?_)
        all_goals (first | refine go1l ?_ | ((refine sl_split 18 (fun h => ?_) (fun h => ?_)) <;> (try (exfalso; first | contradiction | omega | exact h Iff.rfl)) <;> refine go1l ?_))
        all_goals refine sl_eff ?_
        all_goals (repeat' (first | with_reducible (first | refine go1 ?_ | refine sct ?_ | refine scf ?_ | refine sgr ?_) | with_reducible refine sw_buildSliceN x.cs ⟨by omega, by omega, by omega⟩ (by kernel_rfl) fun b3 => ?_ | ((with_reducible refine sw_callf (r3Check1_ok b3 x hbx) ?_); rintro _ _ ⟨rfl, rfl⟩) | with_reducible refine sl_back ?_ | fail))
        all_goals (first | (first | refine sl_skip ?_ | refine sl_skip_u ?_ | refine sl_take_g (h := runop_buildR (ckV 0 (.slice (some ⟨b3, 0, none⟩) 1 1) false) (by kernel_rfl)) ?_) | ((refine sl_split 18 (fun h => ?_) (fun h => ?_)) <;> (try (exfalso; first | contradiction | omega | exact h Iff.rfl)) <;> (first | refine sl_skip ?_ | refine sl_skip_u ?_ | refine sl_take_g (h := runop_buildR (ckV 0 (.slice (some ⟨b3, 0, none⟩) 1 1) false) (by kernel_rfl)) ?_)))
        all_goals refine sl_eff ?_
        all_goals (repeat' (first | with_reducible (first | refine go1 ?_ | refine sct ?_ | refine scf ?_ | refine sgr ?_) | with_reducible refine sw_buildSliceN x.cs ⟨by omega, by omega, by omega⟩ (by kernel_rfl) fun b3 => ?_ | ((with_reducible refine sw_callf (r3Check1_ok b3 x hbx) ?_); rintro _ _ ⟨rfl, rfl⟩) | with_reducible refine sl_back ?_ | fail))
        all_goals (first | refine go1l ?_ | ((refine sl_split 18 (fun h => ?_) (fun h => ?_)) <;> (try (exfalso; first | contradiction | omega | exact h Iff.rfl)) <;> refine go1l ?_))
        all_goals (first | refine go1l ?_ | ((refine sl_split 18 (fun h => ?_) (fun h => ?_)) <;> (try (exfalso; first | contradiction | omega | exact h Iff.rfl)) <;> refine go1l ?_))
        all_goals refine go1l ?_
        all_goals (first | refine go1l ?_ | ((refine sl_split 25 (fun h => ?_) (fun h => ?_)) <;> (try (exfalso; first | contradiction | omega | exact h Iff.rfl)) <;> refine go1l ?_))
        all_goals (first | refine go1l ?_ | ((refine sl_split 25 (fun h => ?_) (fun h => ?_)) <;> (try (exfalso; first | contradiction | omega | exact h Iff.rfl)) <;> refine go1l ?_))
        all_goals (first | refine go1l ?_ | ((refine sl_split 25 (fun h => ?_) (fun h => ?_)) <;> (try (exfalso; first | contradiction | omega | exact h Iff.rfl)) <;> refine go1l ?_))
        all_goals (first | refine go1l ?_ | ((refine sl_split 25 (fun h => ?_) (fun h => ?_)) <;> (try (exfalso; first | contradiction | omega | exact h Iff.rfl)) <;> refine go1l ?_))
        all_goals (first | refine go1l ?_ | ((refine sl_split 29 (fun h => ?_) (fun h => ?_)) <;> (try (exfalso; first | contradiction | omega | exact h Iff.rfl)) <;> refine go1l ?_))
        all_goals (first | refine go1l ?_ | ((refine sl_split 29 (fun h => ?_) (fun h => ?_)) <;> (try (exfalso; first | contradiction | omega | exact h Iff.rfl)) <;> refine go1l ?_))
        all_goals (first | refine go1l ?_ | ((refine sl_split 29 (fun h => ?_) (fun h => ?_)) <;> (try (exfalso; first | contradiction | omega | exact h Iff.rfl)) <;> refine go1l ?_))
        all_goals (first | (first | refine sl_in_g (by omega) ?_ | refine go1l ?_) | ((refine sl_split 29 (fun h => ?_) (fun h => ?_)) <;> (try (exfalso; first | contradiction | omega | exact h Iff.rfl)) <;> (first | refine sl_in_g (by omega) ?_ | refine go1l ?_)))
        all_goals (first | (first | refine sl_skip ?_ | refine sl_skip_u ?_ | refine sl_take_g (h := runop_indexN (out.length - 1) ⟨by omega, by omega⟩) ?_) | ((refine sl_split 29 (fun h => ?_) (fun h => ?_)) <;> (try (exfalso; first | contradiction | omega | exact h Iff.rfl)) <;> (first | refine sl_skip ?_ | refine sl_skip_u ?_ | refine sl_take_g (h := runop_indexN (out.length - 1) ⟨by omega, by omega⟩) ?_)))
        all_goals (first | refine go1l ?_ | ((refine sl_split 29 (fun h => ?_) (fun h => ?_)) <;> (try (exfalso; first | contradiction | omega | exact h Iff.rfl)) <;> refine go1l ?_))
        all_goals (first | (first | refine sl_skip ?_ | refine sl_skip_u ?_ | refine sl_take_g (h := runop_load_rdS bo ((out.length - 1) * 3) (.string (strB out[out.length - 1].key)) hro (spC_key (i := out.length - 1) (by omega)) rfl) ?_) | ((refine sl_split 29 (fun h => ?_) (fun h => ?_)) <;> (try (exfalso; first | contradiction | omega | exact h Iff.rfl)) <;> (first | refine sl_skip ?_ | refine sl_skip_u ?_ | refine sl_take_g (h := runop_load_rdS bo ((out.length - 1) * 3) (.string (strB out[out.length - 1].key)) hro (spC_key (i := out.length - 1) (by omega)) rfl) ?_)))
        all_goals (first | refine go1l ?_ | ((refine sl_split 29 (fun h => ?_) (fun h => ?_)) <;> (try (exfalso; first | contradiction | omega | exact h Iff.rfl)) <;> refine go1l ?_))
        all_goals (first | refine go1l ?_ | ((refine sl_split 29 (fun h => ?_) (fun h => ?_)) <;> (try (exfalso; first | contradiction | omega | exact h Iff.rfl)) <;> refine go1l ?_))
        all_goals (first | (first | refine sl_skip ?_ | refine sl_skip_u ?_ | refine sl_take_g (h := runop_slss (hob _ (List.getElem_mem _)).1 hbx.1) ?_) | ((refine sl_split 29 (fun h => ?_) (fun h => ?_)) <;> (try (exfalso; first | contradiction | omega | exact h Iff.rfl)) <;> (first | refine sl_skip ?_ | refine sl_skip_u ?_ | refine sl_take_g (h := runop_slss (hob _ (List.getElem_mem _)).1 hbx.1) ?_)))
        all_goals (first | refine go1l ?_ | ((refine sl_split 25 (fun h => ?_) (fun h => ?_)) <;> (try (exfalso; first | contradiction | omega | exact h Iff.rfl)) <;> refine go1l ?_))
        all_goals (first | refine go1l ?_ | ((refine sl_split 25 (fun h => ?_) (fun h => ?_)) <;> (try (exfalso; first | contradiction | omega | exact h Iff.rfl)) <;> refine go1l ?_))
        all_goals refine sl_done ?_
        all_goals (repeat' (first | with_reducible refine sw_in (by omega) ?_ | with_reducible (first | refine go1 ?_ | refine sct ?_ | refine scf ?_ | refine sgr ?_) | (with_reducible refine sc_cond (fun h => ?_) (fun h => ?_)) <;> (try (exfalso; first | contradiction | omega | exact h Iff.rfl)) | fail))
        all_goals first
        | (rw [if_pos (by
             refine ⟨by omega, by assumption, ?_⟩
             first
             | rfl
             | (rw [hlast (by omega)]; show lessB _ _ = true; assumption)
             | (rw [hnil (by omega)]; rfl))] at hst
           repeat' (first | with_reducible (first | refine go1 ?_ | refine sct ?_ | refine scf ?_ | refine sgr ?_) | fail)
           refine sw_buildSliceN x.cs ⟨by omega, by omega, by omega⟩ (by kernel_rfl) fun b4 => ?_
           refine sw_appendNV (nb := 40) (spC (out)) x.cs (out).length (some (bo, c3, t3)) ho (sp_one _ _ _) rfl (by omega) ⟨rfl, by omega, by omega⟩ fun o4 hne ho4 => ?_
           have hcs : spC (out) ++ x.cs = spC ((out) ++ [x]) := by rw [spC_app]; rfl
           have hln : (out).length + 1 = ((out) ++ [x]).length := by simp
           rw [hcs] at ho4 ⊢
           rw [hln] at ho4 ⊢
           repeat' (first | with_reducible refine sw_in (by omega) ?_ | with_reducible (first | refine go1 ?_ | refine sct ?_ | refine scf ?_ | refine sgr ?_) | fail)
           refine sq_round ⟨(i + 1, (out) ++ [x], o4), by simp only; omega, ho4, hst.symm⟩ ?_ ?_ ?_
           · show l.length - (i + 1) < l.length - i
             omega
           · repeat' (first | exact says_nil | refine says_cons rfl ?_ | refine says_cons (by simp) ?_)
           · dsimp only
             repeat' (first | with_reducible exact Ent.refl _ | with_reducible refine Ent.take_eq ?_ ?_ | rfl | with_reducible refine Ent.oR ?_ | with_reducible refine Ent.trans (oR.drop _ _ _) ?_ | with_reducible refine Ent.trans (Ent.drop _ _) ?_)
           done)
        | (rw [if_neg (by
             rintro ⟨h7, h8, h9⟩
             first
             | omega
             | exact absurd h8 (by assumption)
             | (rw [hlast (by omega)] at h9; exact absurd (show lessB _ _ = true from h9) (by assumption)))] at hst
           repeat' (first | with_reducible refine sw_in (by omega) ?_ | with_reducible (first | refine go1 ?_ | refine sct ?_ | refine scf ?_ | refine sgr ?_) | fail)
           refine sq_round ⟨(i + 1, (out), (some (bo, c3, t3))), by simp only; omega, ho, hst.symm⟩ ?_ ?_ ?_
           · show l.length - (i + 1) < l.length - i
             omega
           · repeat' (first | exact says_nil | refine says_cons rfl ?_ | refine says_cons (by simp) ?_)
           · dsimp only
             repeat' (first | with_reducible exact Ent.refl _ | with_reducible refine Ent.take_eq ?_ ?_ | rfl | with_reducible refine Ent.oR ?_ | with_reducible refine Ent.trans (oR.drop _ _ _) ?_ | with_reducible refine Ent.trans (Ent.drop _ _) ?_)
           done)
  · have hiK : i = l.length := by omega
    subst hiK
    rw [List.take_length] at hou
    have hou2 : out = riseL most l := hou
    subst hou2
    repeat' (first | with_reducible (first | refine go1 ?_ | refine sct ?_ | refine scf ?_ | refine sgr ?_) | fail)
    refine sq_ret1 Try.results17 ?_
    exact ⟨_, ⟨o, ho, rfl, rfl⟩, Ent.refl _⟩
end Go.Gsl

namespace Go.Gsl
set_option linter.unusedVariables false
open Go.Proofs

theorem Dk.wrote_now (s : Dk) (a : Int) (x : List Int) (j : Int) : (s.wrote a x).now j = if j = a then x else s.now j := by
  unfold Dk.now Dk.wrote Dk.met
  simp only
  split <;> rfl
theorem Dk.wrote_sure (s : Dk) (a : Int) (x : List Int) : (s.wrote a x).sure = s.sure := rfl
theorem Dk.wrote_down (s : Dk) (a : Int) (x : List Int) : (s.wrote a x).down = s.down := rfl
theorem Dk.wrote_fuse (s : Dk) (a : Int) (x : List Int) (h : s.fuse = 0) : (s.wrote a x).fuse = 0 := by
  show (if s.fuse = 0 then (0 : Int) else s.fuse - 1) = 0
  rw [if_pos h]
/-- sectors laid over others -/
def ov (a : Int) (xs : List (List Int)) (g : Int → List Int) : Int → List Int := fun j => if a ≤ j ∧ j < a + xs.length then xs[(j - a).toNat]?.getD [] else g j
theorem ov_nil (a : Int) (g : Int → List Int) : ov a [] g = g := by
  funext j
  unfold ov
  rw [if_neg (by simp only [List.length_nil]; omega)]
theorem ov_cons (a : Int) (x : List Int) (xs : List (List Int)) (g : Int → List Int) : ov (a + 1) xs (fun j => if j = a then x else g j) = ov a (x :: xs) g := by
  funext j
  unfold ov
  rw [List.length_cons]
  simp only
  by_cases h : a + 1 ≤ j ∧ j < a + 1 + xs.length
  · obtain ⟨m, hm⟩ : ∃ m : Nat, j - a = (m : Int) + 1 := ⟨(j - a - 1).toNat, by omega⟩
    rw [if_pos h, if_pos (by omega), hm, show (j - (a + 1)).toNat = m by omega, show ((m : Int) + 1).toNat = m + 1 by omega, List.getElem?_cons_succ]
  · rw [if_neg h]
    by_cases h2 : j = a
    · rw [if_pos h2, if_pos (by omega), show (j - a).toNat = 0 by omega]
      rfl
    · rw [if_neg h2, if_neg (by omega)]
/-- all sectors were written -/
theorem WrT_zero : ∀ {xs : List (List Int)} {a : Int} {s s' : Dk}, WrT xs a s s' 0 → s'.sure = s.sure ∧ s'.down = s.down ∧ (s.fuse = 0 → s'.fuse = 0) ∧ s'.now = ov a xs s.now
  | [], _, _, _, h => by
    obtain ⟨rfl, _⟩ := h
    exact ⟨rfl, rfl, id, (ov_nil _ _).symm⟩
  | x :: xs, a, s, s', h => by
    rcases h with ⟨h1, _, h2⟩ | ⟨_, _, h⟩ | ⟨_, _, h, _⟩
    · omega
    · obtain ⟨h1, h2, h3, h4⟩ := WrT_zero h
      refine ⟨h1, h2, fun h => h3 (Dk.wrote_fuse _ _ _ h), ?_⟩
      rw [h4, ← ov_cons]
      congr 1
      funext j
      exact Dk.wrote_now s a x j
    · omega
/-- a disk that is up, no fuse being set -/
def Dk.Up (s : Dk) : Prop := s.down = false ∧ s.fuse = 0
theorem WrT_up : ∀ {xs : List (List Int)} {a : Int} {s s' : Dk} {e : Int}, WrT xs a s s' e → s.Up → 0 ≤ a → a + xs.length ≤ s.sure.length → e = 0
  | [], _, _, _, _, h, _, _, _ => h.2
  | x :: xs, a, s, s', e, h, hu, h0, h1 => by
    rw [List.length_cons] at h1
    have hl : s.looks a = 0 := Dk.looks_ok hu.1 h0 (by omega)
    rcases h with ⟨h2, _⟩ | ⟨_, _, h⟩ | ⟨_, h2, _⟩
    · omega
    · exact WrT_up h ⟨hu.1, Dk.wrote_fuse _ _ _ hu.2⟩ (by omega) (by show _ ≤ (s.sure.length : Int); omega)
    · rw [hu.2] at h2; cases h2

/-- the chunks of pairs, so many of them, laid over sectors -/
def img (f : Int) (l : List Sp) : Nat → (Int → List Int) → Int → List Int
  | 0, g => g
  | n + 1, g => ov (f + (n : Int) * 12) (ckAt l n).secs (img f l n g)
theorem img_more {f : Int} {l m : List Sp} {g : Int → List Int} : ∀ n, n ≤ wN l → img f (l ++ m) n g = img f l n g
  | 0, _ => rfl
  | n + 1, h => by
    unfold img
    rw [img_more n (by omega), ckAt_more (by unfold wN at h; omega)]
theorem Sp.Fine.in {x : Sp} (h : x.Fine) (hb : Byt x.key ∧ Byt x.val) : x.In := by
  have h3 := h.2.2
  unfold Stamp at h3
  exact ⟨hb.1, hb.2, by unfold I64; omega, by have := h.1; omega, by have := h.2.1; omega⟩
theorem ckAt_secs {l : List Sp} (h : Rise l) {i : Nat} (hi : i < 4096) : (ckAt l i).secs.length ≤ 12 := (Ck.secs_len (ckAt_chk h hi)).1

/-- one chunk more, on a disk that is up -/
theorem CkW_up {s s' : Dk} {f c : Int} {l : List Sp} {i : Nat} {e : Int} (hr : Rise l) (hi : (i : Int) < c) (h : CkW s f c (ckAt l i) s' e) (ha : areaE f c s.sure.length = 0) (hu : s.Up) : e = 0 ∧ s'.sure = s.sure ∧ s'.Up ∧ s'.now = ov (f + (i : Int) * 12) (ckAt l i).secs s.now := by
  have ha2 : 0 ≤ f ∧ 1 ≤ c ∧ c ≤ 4096 ∧ c * 12 ≤ s.sure.length - f := by unfold areaE at ha; split at ha <;> omega
  have hc := ckAt_chk hr (i := i) (by omega)
  have hs := ckAt_secs hr (i := i) (by omega)
  have hnum : (ckAt l i).num = i := rfl
  rcases h with ⟨h, _⟩ | ⟨_, h, _⟩ | ⟨_, _, h, _⟩ | ⟨_, _, _, h⟩
  · exact absurd ha h
  · exact absurd hc h
  · rw [hnum] at h; omega
  · rw [hnum] at h
    have he := WrT_up h hu (by omega) (by omega)
    subst he
    obtain ⟨h1, h2, h3, h4⟩ := WrT_zero h
    exact ⟨rfl, h1, ⟨h2.trans hu.1, h3 hu.2⟩, h4⟩
/-- Put, on a disk that is up -/
theorem PutR_up {f c : Int} {l : List Sp} {g : Int → List Int} (hr : Rise l) (hc : (nCk l : Int) ≤ c) : ∀ {L : List Sp} {n : Int} {s : Dk} {L' : List Sp} {n' : Int} {s' : Dk} {e : Int}, PutR f c L n s L' n' s' e →
    ∀ m : Nat, m ≤ wN l → n = m → L = l.drop (16 * m) → areaE f c s.sure.length = 0 → s.Up → s.now = img f l m g → e = 0 ∧ L' = wRest l ∧ n' = wN l ∧ s'.sure = s.sure ∧ s'.Up ∧ s'.now = img f l (wN l) g := by
  intro L n s L' n' s' e h
  induction h with
  | stop h =>
    intro m hm hn hL ha hu hg
    subst hL
    obtain ⟨h1, h2⟩ := put_end hm (by omega)
    subst h1
    exact ⟨rfl, h2, hn, rfl, hu, hg⟩
  | bad h hw he =>
    intro m hm hn hL ha hu hg
    subst hL hn
    obtain ⟨h1, h2, h3⟩ := put_turn h
    rw [← h2] at hw
    have hnc : nCk l = wN l + 1 := rfl
    exact absurd (CkW_up hr (by omega) hw ha hu).1 he
  | turn h hw _ ih =>
    intro m hm hn hL ha hu hg
    subst hL hn
    obtain ⟨h1, h2, h3⟩ := put_turn h
    rw [← h2] at hw
    have hnc : nCk l = wN l + 1 := rfl
    obtain ⟨_, h4, h5, h6⟩ := CkW_up hr (by omega) hw ha hu
    have := ih (m + 1) (by omega) (by omega) h3 (by rw [h4]; exact ha) h5 (by rw [h6, hg]; rfl)
    rw [h4] at this
    exact this

theorem ov_out {a : Int} {xs : List (List Int)} {g : Int → List Int} {j : Int} (h : j < a ∨ a + xs.length ≤ j) : ov a xs g j = g j := by unfold ov; rw [if_neg (by omega)]
theorem ov_in {a : Int} {xs : List (List Int)} {g : Int → List Int} {j : Nat} (h : j < xs.length) : ov a xs g (a + j) = xs[j] := by
  unfold ov
  rw [if_pos (by omega), show (a + (j : Int) - a).toNat = j by omega, List.getElem?_eq_getElem h]
  rfl
/-- each chunk stands where it was laid -/
theorem img_at {f : Int} {l : List Sp} {g : Int → List Int} (hr : Rise l) : ∀ n : Nat, n ≤ 4096 → ∀ i : Nat, i < n → ∀ j : Nat, ∀ hj : j < (ckAt l i).secs.length, img f l n g (f + (i : Int) * 12 + j) = (ckAt l i).secs[j]
  | 0, _, i, hi, _, _ => by omega
  | n + 1, hn, i, hi, j, hj => by
    unfold img
    have hs := ckAt_secs hr (i := i) (by omega)
    rcases Nat.lt_or_ge i n with h | h
    · rw [ov_out (by omega)]
      exact img_at hr n (by omega) i h j hj
    · have : i = n := by omega
      subst this
      exact ov_in hj
theorem img_out {f : Int} {l : List Sp} {g : Int → List Int} (hr : Rise l) : ∀ n : Nat, n ≤ 4096 → ∀ j : Int, j < f ∨ f + (n : Int) * 12 ≤ j → img f l n g j = g j
  | 0, _, _, _ => rfl
  | n + 1, hn, j, hj => by
    unfold img
    have hs := ckAt_secs hr (i := n) (by omega)
    rw [ov_out (by omega)]
    exact img_out hr n (by omega) j (by omega)
theorem catS_add (s : Dk) (a : Int) (m : Nat) : ∀ k : Nat, catS s a (m + k) = catS s a m ++ catS s (a + m) k
  | 0 => by simp [catS]
  | k + 1 => by
    show catS s a (m + k) ++ s.now (a + ((m + k : Nat) : Int)) = catS s a m ++ (catS s (a + m) k ++ s.now (a + m + k))
    rw [catS_add s a m k, List.append_assoc, show a + ((m + k : Nat) : Int) = a + (m : Int) + (k : Int) by omega]
theorem catS_eq (s : Dk) : ∀ (xs : List (List Int)) (a : Int), (∀ j : Nat, ∀ hj : j < xs.length, s.now (a + j) = xs[j]) → catS s a xs.length = xs.flatten
  | [], _, _ => rfl
  | x :: xs, a, h => by
    have h0 := h 0 (by simp)
    have h1 : catS s a 1 = x := by
      show [] ++ s.now (a + ((0 : Nat) : Int)) = x
      rw [h0]
      rfl
    rw [List.length_cons, Nat.add_comm, catS_add, h1, List.flatten_cons]
    congr 1
    refine catS_eq s xs _ fun j hj => ?_
    have := h (j + 1) (by rw [List.length_cons]; omega)
    rw [List.getElem_cons_succ] at this
    rw [← this]
    congr 1
    omega
theorem readA_at {s : Dk} {f c : Int} {l : List Sp} {i : Nat} (hr : Rise l) (hi : ∀ x ∈ l, x.In) (ha : areaE f c s.sure.length = 0) (hic : (i : Int) < c) (hd : s.down = false) (hs : ∀ j : Nat, ∀ hj : j < (ckAt l i).secs.length, s.now (f + (i : Int) * 12 + j) = (ckAt l i).secs[j]) : readA s f c i = (ckAt l i, 0) := by
  have ha2 : 0 ≤ f ∧ 1 ≤ c ∧ c ≤ 4096 ∧ c * 12 ≤ s.sure.length - f := by unfold areaE at ha; split at ha <;> omega
  have hl := ckAt_secs hr (i := i) (by omega)
  unfold readA
  rw [if_neg (by omega), if_neg (by omega), hd, if_neg (by decide)]
  have h12 : (12 : Nat) = (ckAt l i).secs.length + (12 - (ckAt l i).secs.length) := by omega
  rw [h12, catS_add, catS_eq s _ _ hs]
  exact read_ck (ckAt_in hi (by omega)) (ckAt_chk hr (by omega)) _
/-- all is loaded -/
theorem loadA_at {s : Dk} {f c : Int} {l : List Sp} (hr : Rise l) (hi : ∀ x ∈ l, x.In) (ha : areaE f c s.sure.length = 0) (hc : (nCk l : Int) ≤ c) (hd : s.down = false) (hs : ∀ i : Nat, i < nCk l → ∀ j : Nat, ∀ hj : j < (ckAt l i).secs.length, s.now (f + (i : Int) * 12 + j) = (ckAt l i).secs[j]) : loadA s f c (nCk l) = (l, 0) := by
  have hn : 1 ≤ nCk l := by unfold nCk; omega
  have hra : ∀ i : Nat, i < nCk l → readA s f c i = (ckAt l i, 0) := fun i h => readA_at hr hi ha (by omega) hd (hs i h)
  have he : ∀ m : Nat, m ≤ nCk l → rdErr s f c m = 0 := by
    intro m
    induction m with
    | zero => intro _; rfl
    | succ m ih =>
      intro h
      show (if rdErr s f c m ≠ 0 then _ else _) = _
      rw [ih (by omega), if_neg (by decide), hra m (by omega)]
  have hm : ((List.range (nCk l)).map fun i : Nat => (readA s f c i).1) = (List.range (nCk l)).map (ckAt l) := List.map_congr_left fun i hi => by rw [hra i (List.mem_range.1 hi)]
  unfold loadA
  rw [if_neg (by omega), if_neg (by omega), Int.toNat_natCast, he _ (Nat.le_refl _), if_neg (by decide), hm, load_cut hr]

theorem Dk.barred_now2 {s : Dk} {j : Int} (h0 : 0 ≤ j) (h : j < s.sure.length) : s.barred.now j = s.now j := by
  obtain ⟨i, rfl⟩ : ∃ i : Nat, j = i := ⟨j.toNat, by omega⟩
  have h2 : i < s.sure.length := by omega
  unfold Dk.now
  show ((mergeS s.dirty s.sure)[(i : Int).toNat]?).getD [] = _
  unfold mergeS
  rw [Int.toNat_natCast, List.getElem?_mapIdx, List.getElem?_eq_getElem h2]
  simp only [Option.map_some, Option.getD_some]
theorem BarC_up {s s' : Dk} {e : Int} (h : BarC s s' e) (hu : s.Up) (hn : 1 ≤ s.sure.length) : e = 0 ∧ s' = s.barred := by
  have hl : s.looks 0 = 0 := Dk.looks_ok hu.1 (by omega) (by omega)
  rcases h with ⟨h, _⟩ | ⟨_, _, h1, h2⟩ | ⟨_, h, _⟩
  · exact absurd hl h
  · exact ⟨h1, h2⟩
  · rw [hu.2] at h; cases h
theorem Dk.barred_up {s : Dk} (h : s.Up) : s.barred.Up := ⟨h.1, by show (if s.fuse = 0 then (0 : Int) else s.fuse - 1) = 0; rw [if_pos h.2]⟩
/-- Done, on a disk that is up -/
theorem DoneR_up {f c : Int} {l : List Sp} {g : Int → List Int} (hr : Rise l) (hc : (nCk l : Int) ≤ c) {s : Dk} {L : List Sp} {n' : Int} {d : Bool} {s' : Dk} {a e : Int} (h : DoneR f c (wRest l) (wN l) s L n' d s' a e) (ha : areaE f c s.sure.length = 0) (hu : s.Up) (hg : s.now = img f l (wN l) g) :
    e = 0 ∧ a = nCk l ∧ n' = nCk l ∧ d = true ∧ L = [] ∧ s'.sure.length = s.sure.length ∧ s'.Up ∧ (s'.dirty = fun _ => none) ∧ ∀ j : Int, 0 ≤ j → j < s.sure.length → s'.now j = img f l (nCk l) g j := by
  have ha2 : 0 ≤ f ∧ 1 ≤ c ∧ c ≤ 4096 ∧ c * 12 ≤ s.sure.length - f := by unfold areaE at ha; split at ha <;> omega
  obtain ⟨h1, h2⟩ := done_ck l
  unfold DoneR at h
  rw [← h1] at h
  rcases h with ⟨hw, he, _⟩ | ⟨s1, hw, hb, hL, hn', h⟩
  · exact absurd (CkW_up hr (by omega) hw ha hu).1 he
  · obtain ⟨_, h4, h5, h6⟩ := CkW_up hr (by omega) hw ha hu
    obtain ⟨h7, h8⟩ := BarC_up hb h5 (by rw [h4]; omega)
    subst h7 h8
    rcases h with ⟨h9, _⟩ | ⟨_, h10, h11⟩
    · exact absurd rfl h9
    · refine ⟨rfl, by rw [h11, h2]; omega, by rw [hn', h2]; omega, h10, hL, by rw [Dk.barred_len, h4], Dk.barred_up h5, rfl, fun j h0 h12 => ?_⟩
      rw [Dk.barred_now2 h0 (by rw [h4]; exact h12), h6, hg, h2]
      rfl
end Go.Gsl

namespace Go.Gsl
set_option linter.unusedVariables false
open Go.Proofs

theorem Spec.imp {P : Program} {f : FuncId} {vs : List Value} {ks : List Nat} {rs : List HProp} {R R' : List Res → Value → List Res → Prop} (h : Spec P f vs ks rs R) (hi : ∀ F v Rs', R F v Rs' → R' F v Rs') : Spec P f vs ks rs R' := h.mono hi
/-- what a writer that was given pairs has made of a disk -/
structure WSt (f c : Int) (N : Nat) (g : Int → List Int) (l : List Sp) (s : Dk) : Prop where
  len : s.sure.length = N
  up : s.Up
  now : s.now = img f l (wN l) g
/-- a checkpoint that is done -/
structure DSt (f c : Int) (N : Nat) (g : Int → List Int) (l : List Sp) (s : Dk) : Prop where
  len : s.sure.length = N
  up : s.Up
  dirty : s.dirty = fun _ => none
  now : ∀ j : Int, 0 ≤ j → j < N → s.now j = img f l (nCk l) g j

theorem ckNew_wr (p : Nat) (s : Dk) (hw : s.Wf) (f c : Int) (hf : I64 f) (hc : I64 c) (ha : areaE f c s.sure.length = 0) : Spec Try.prog 11 [.pointer (some ⟨p, 0, none⟩), .agg [.int .i64 f, .int .i64 c].toArray] [p] [DISK p s]
    fun F w Rs' => ∃ q, w = .tuple #[.pointer (some ⟨q, 0, none⟩), .int .i64 0] ∧ Rs' = (q, WR q p f c (wRest []) (wN []) false) :: (p, DISK p s) :: F := by
  intro w0 F w hw'
  refine Calls.mono (ckNew_ok p s hw f c hf hc w0 F w hw') ?_
  rintro x w' ⟨v, Rs', rfl, (⟨h, _⟩ | ⟨_, q, rfl, rfl⟩), hs⟩
  · exact absurd ha h
  · refine ⟨_, _, rfl, ⟨q, rfl, rfl⟩, hs.ent ?_⟩
    have hz : NOk 3 (spC []) ([] : List Sp).length none := ⟨rfl, fun _ => ⟨rfl, rfl⟩, fun b c t h => (by cases h)⟩
    exact WR.close (w := q) (p := p) (f := f) (c := c) (l := []) (n := 0) (done := false) hz

theorem ckPut_up (w p k : Nat) (s : Dk) (r : HProp) (f c : Int) (l m : List Sp) (v : Value) (N : Nat) (g : Int → List Int) (hf : I64 f) (hc : I64 c) (hv : RdS r v m) (hr : Rise (l ++ m)) (hb : SpsB (l ++ m)) (hn : (nCk (l ++ m) : Int) ≤ c) (ha : areaE f c N = 0) (hs : WSt f c N g l s) :
    Spec Try.prog 14 [.pointer (some ⟨w, 0, none⟩), v] [w, p, k] [WR w p f c (wRest l) (wN l) false, DISK p s, r]
    fun F x Rs' => ∃ s', WSt f c N g (l ++ m) s' ∧ x = .int .i64 0 ∧ Rs' = (w, WR w p f c (wRest (l ++ m)) (wN (l ++ m)) false) :: (p, DISK p s') :: (k, r) :: F := by
  have hpm := put_more l m
  have hin : ∀ x ∈ l ++ m, x.In := fun x hx => (hr.1 x hx).in (hb x hx)
  have ha2 : c ≤ 4096 := by unfold areaE at ha; split at ha <;> omega
  have hnn : nCk (l ++ m) = wN (l ++ m) + 1 := rfl
  have hwl : (l ++ m).length ≤ 16 * (wN (l ++ m) + 1) := by unfold wN; omega
  have h1 := ckPut_ok w p k s r f c (wRest l) m (wN l) v hf hc hv (fun x hx => hin x (by rw [hpm.1] at hx; exact List.mem_of_mem_drop hx)) (by omega) (by rw [hpm.1, List.length_drop]; omega)
  refine h1.imp fun F x Rs' => ?_
  rintro ⟨L, n', s', e, hp, rfl, rfl⟩
  rw [hpm.1] at hp
  obtain ⟨rfl, h2, h3, h4, h5, h6⟩ := PutR_up (l := l ++ m) (g := g) hr hn hp (wN l) hpm.2 rfl rfl (by rw [hs.len]; exact ha) hs.up (by rw [hs.now, img_more _ (Nat.le_refl _)])
  refine ⟨s', ⟨by rw [h4, hs.len], h5, h6⟩, rfl, ?_⟩
  rw [h2, h3]
theorem ckDone_up (w p : Nat) (s : Dk) (f c : Int) (l : List Sp) (N : Nat) (g : Int → List Int) (hf : I64 f) (hc : I64 c) (hr : Rise l) (hb : SpsB l) (hn : (nCk l : Int) ≤ c) (ha : areaE f c N = 0) (hs : WSt f c N g l s) :
    Spec Try.prog 13 [.pointer (some ⟨w, 0, none⟩)] [w, p] [WR w p f c (wRest l) (wN l) false, DISK p s]
    fun F x Rs' => ∃ s', DSt f c N g l s' ∧ x = .tuple #[.int .i64 (nCk l : Int), .int .i64 0] ∧ Rs' = (w, WR w p f c [] (nCk l : Int) true) :: (p, DISK p s') :: F := by
  have hin : ∀ x ∈ l, x.In := fun x hx => (hr.1 x hx).in (hb x hx)
  have ha2 : c ≤ 4096 := by unfold areaE at ha; split at ha <;> omega
  have hnn : nCk l = wN l + 1 := rfl
  have hwr := wRest_len l
  refine (ckDone_ok w p s f c (wRest l) (wN l) hf hc (fun x hx => hin x (by unfold wRest at hx; exact List.mem_of_mem_drop hx)) (by omega) (by omega)).imp fun F x Rs' => ?_
  rintro ⟨L, n', d', s', a, e, hd, rfl, rfl⟩
  obtain ⟨rfl, rfl, rfl, rfl, rfl, h1, h2, h3, h4⟩ := DoneR_up (g := g) hr hn hd (by rw [hs.len]; exact ha) hs.up hs.now
  exact ⟨s', ⟨by rw [h1, hs.len], h2, h3, fun j h0 h5 => h4 j h0 (by rw [hs.len]; exact h5)⟩, rfl, rfl⟩
theorem loadA_of {s : Dk} {f c : Int} {l : List Sp} {N : Nat} {g : Int → List Int} (hr : Rise l) (hb : SpsB l) (hn : (nCk l : Int) ≤ c) (hlen : s.sure.length = N) (ha : areaE f c N = 0) (hd : s.down = false) (hg : ∀ j : Int, f ≤ j → j < f + c * 12 → s.now j = img f l (nCk l) g j) : loadA s f c (nCk l) = (l, 0) := by
  have ha2 : 0 ≤ f ∧ 1 ≤ c ∧ c ≤ 4096 ∧ c * 12 ≤ N - f := by unfold areaE at ha; split at ha <;> omega
  refine loadA_at hr (fun x hx => (hr.1 x hx).in (hb x hx)) (by rw [hlen]; exact ha) hn hd fun i hi j hj => ?_
  have hl := ckAt_secs hr (i := i) (by omega)
  rw [hg _ (by omega) (by omega)]
  exact img_at hr (nCk l) (by omega) i hi j hj
theorem ckLoad_up (p : Nat) (s : Dk) (f c : Int) (l : List Sp) (k : Int) (hf : I64 f) (hc : I64 c) (hk : k = nCk l) (hk2 : I64 k) (h : loadA s f c (nCk l) = (l, 0)) :
    Spec Try.prog 10 [.pointer (some ⟨p, 0, none⟩), .agg [.int .i64 f, .int .i64 c].toArray, .int .i64 k] [p] [DISK p s]
    fun F w Rs' => ∃ q, NOk 3 (spC l) l.length q ∧ w = .tuple #[nV l.length q, .int .i64 0] ∧ Rs' = oR (SpG l) ((p, DISK p s) :: F) q := by
  subst hk
  have := ckLoad_ok p s f c (nCk l) hf hc hk2
  rw [h] at this
  exact this
theorem dNew_60 : Spec Try.prog 16 [.int .i64 60] [] [] fun F v Rs' => ∃ p, v = .tuple #[.pointer (some ⟨p, 0, none⟩), .int .i64 0] ∧ Rs' = (p, DISK p (Dk.new 60)) :: F := dNew_ok 60 (by omega) (by omega)
theorem WSt.new (f c : Int) : WSt f c 60 (Dk.new 60).now [] (Dk.new 60) := ⟨List.length_replicate, ⟨rfl, rfl⟩, rfl⟩
theorem areaE_60 {f c : Int} (h0 : 0 ≤ f) (h1 : 1 ≤ c) (h2 : f + c * 12 ≤ 60) : areaE f c (60 : Nat) = 0 := by unfold areaE; rw [if_neg (by omega)]

/-- the pair that the laws' first call puts -/
def spA : Sp := ⟨[97], [49], 3⟩
theorem spA_ok : Rise [spA] ∧ SpsB [spA] := by
  refine ⟨⟨fun x hx => ?_, List.pairwise_singleton _ _⟩, fun x hx => ?_⟩
  · rw [List.mem_singleton.1 hx]; exact ⟨by decide, by decide, by unfold Stamp spA; decide⟩
  · rw [List.mem_singleton.1 hx]
    exact ⟨fun y hy => by rw [List.mem_singleton.1 hy]; omega, fun y hy => by rw [List.mem_singleton.1 hy]; omega⟩
set_option maxHeartbeats 4000000 in
theorem l19live_ok : Spec Try.prog 8 [] [] [] fun F v Rs' => v = .bool true ∧ Rs' = F := by
  refine spec_of Try.func8 rfl Try.ntmps8 rfl ?_
  intro w0 F
  have hI2 : I64 2 := by unfold I64; omega
  repeat' (first | with_reducible (first | refine go1 ?_ | refine sct ?_ | refine scf ?_ | refine sgr ?_) | ((with_reducible refine sw_call dNew_60 ?_); rintro _ _ ⟨p, rfl, rfl⟩) | (with_reducible refine sc_cond (fun h => ?_) (fun h => ?_)) <;> (try (exfalso; first | contradiction | omega | exact h Iff.rfl)) | (with_reducible refine sw_guard_split (fun h => ?_) (fun h => ?_)) <;> (try (exfalso; first | contradiction | omega | exact h Iff.rfl)) | (with_reducible refine sw_pick (fun h => ?_) (fun h => ?_)) <;> (try (exfalso; first | contradiction | omega | exact h Iff.rfl)) | fail)
  refine DISK.scwf' (p := p) (s := Dk.new 60) fun hwf => ?_
  refine sw_build [.int .i64 2, .int .i64 2] (by kernel_rfl) ?_
  refine sw_alloc fun b3 => ?_
  refine sw_store_agg ?_
  repeat' (first | with_reducible (first | refine go1 ?_ | refine sct ?_ | refine scf ?_ | refine sgr ?_) | fail)
  have ha : areaE 2 2 ((Dk.new 60).sure.length) = 0 := by rw [show (Dk.new 60).sure.length = 60 from List.length_replicate]; exact areaE_60 (by omega) (by omega) (by omega)
  refine sw_call (ckNew_wr p (Dk.new 60) hwf 2 2 hI2 hI2 ha) ?_
  rintro _ _ ⟨q, rfl, rfl⟩
  repeat' (first | with_reducible (first | refine go1 ?_ | refine sct ?_ | refine scf ?_ | refine sgr ?_) | fail)
  refine sw_build spA.cs (by kernel_rfl) ?_
  refine sw_buildSliceN (spC [spA]) ⟨by omega, by omega, by omega⟩ (by kernel_rfl) fun b5 => ?_
  have hA := spA_ok
  have hput := ckPut_up q p b5 (Dk.new 60) (pts b5 (.cells (spC [spA]).toArray 50 (0, 0))) 2 2 [] [spA] (.slice (some ⟨b5, 0, none⟩) 1 1) 60 (Dk.new 60).now hI2 hI2 (RdS.own0 (l := [spA]) (Nat.le_refl _)) hA.1 hA.2 (by show ((1 : Nat) : Int) ≤ 2; omega) (areaE_60 (by omega) (by omega) (by omega)) (WSt.new 2 2)
  rw [List.nil_append] at hput
  repeat' (first | with_reducible (first | refine go1 ?_ | refine sct ?_ | refine scf ?_ | refine sgr ?_) | ((with_reducible refine sw_call hput ?_); rintro _ _ ⟨s1, hs1, rfl, rfl⟩) | (with_reducible refine sc_cond (fun h => ?_) (fun h => ?_)) <;> (try (exfalso; first | contradiction | omega | exact h Iff.rfl)) | (with_reducible refine sw_guard_split (fun h => ?_) (fun h => ?_)) <;> (try (exfalso; first | contradiction | omega | exact h Iff.rfl)) | (with_reducible refine sw_pick (fun h => ?_) (fun h => ?_)) <;> (try (exfalso; first | contradiction | omega | exact h Iff.rfl)) | fail)
  have hdone := ckDone_up q p s1 2 2 [spA] 60 (Dk.new 60).now hI2 hI2 hA.1 hA.2 (by show ((1 : Nat) : Int) ≤ 2; omega) (areaE_60 (by omega) (by omega) (by omega)) hs1
  refine sw_call hdone ?_
  rintro _ _ ⟨s2, hs2, rfl, rfl⟩
  rw [show (nCk [spA] : Int) = 1 from rfl]
  have hload := ckLoad_up p s2 2 2 [spA] 1 hI2 hI2 rfl (by unfold I64; omega) (loadA_of (g := (Dk.new 60).now) hA.1 hA.2 (by show ((1 : Nat) : Int) ≤ 2; omega) hs2.len (areaE_60 (by omega) (by omega) (by omega)) hs2.up.1 fun j h0 h1 => hs2.now j (by omega) (by omega))
  repeat' (first | with_reducible (first | refine go1 ?_ | refine sct ?_ | refine scf ?_ | refine sgr ?_) | fail)
  refine sw_call hload ?_
  rintro _ _ ⟨qq, hqq, rfl, rfl⟩
  obtain ⟨⟨b9, c9, t9⟩, rfl⟩ : ∃ y, qq = some y := by
    cases qq with
    | none => have := (hqq.2.1 rfl).2; cases this
    | some y => exact ⟨y, rfl⟩
  have hcap := (hqq.2.2 b9 c9 t9 rfl).1
  rw [nG_some, show nV ([spA] : List Sp).length (some (b9, c9, t9)) = .slice (some ⟨b9, 0, none⟩) ([spA] : List Sp).length c9 from rfl]
  have hsame := r3SamePairs_ok b9 b5 (pts b9 (.cells (spC [spA] ++ t9).toArray 50 (0, 0))) (pts b5 (.cells (spC [spA]).toArray 50 (0, 0))) (.slice (some ⟨b9, 0, none⟩) ([spA] : List Sp).length c9) (.slice (some ⟨b5, 0, none⟩) 1 1) [spA] [spA] (RdS.own hcap) (RdS.own0 (l := [spA]) (Nat.le_refl _)) hA.2 hA.2 (by simp)
  repeat' (first | with_reducible (first | refine go1 ?_ | refine sct ?_ | refine scf ?_ | refine sgr ?_) | ((with_reducible refine sw_call hsame ?_); rintro _ _ ⟨⟨y, hy, rfl⟩, rfl⟩) | (with_reducible refine sc_cond (fun h => ?_) (fun h => ?_)) <;> (try (exfalso; first | contradiction | omega | exact h Iff.rfl)) | (with_reducible refine sw_guard_split (fun h => ?_) (fun h => ?_)) <;> (try (exfalso; first | contradiction | omega | exact h Iff.rfl)) | (with_reducible refine sw_pick (fun h => ?_) (fun h => ?_)) <;> (try (exfalso; first | contradiction | omega | exact h Iff.rfl)) | fail)
  have hyt : y = true := hy.2 rfl
  subst hyt
  refine sq_ret1 Try.results8 ?_
  refine ⟨_, ⟨rfl, rfl⟩, ?_⟩
  repeat' (first | with_reducible exact Ent.refl _ | with_reducible refine Ent.take_eq ?_ ?_ | rfl | with_reducible refine Ent.oR ?_ | with_reducible refine Ent.trans (oR.drop _ _ _) ?_ | with_reducible refine Ent.trans (Ent.drop _ _) ?_)
end Go.Gsl

namespace Go.Gsl
set_option linter.unusedVariables false
open Go.Proofs

/-- a slice of pairs: nil, or a part of a row -/
def RdT (r : HProp) (v : Value) (l : List Sp) : Prop := (v = .slice none 0 0 ∧ l = []) ∨ ∃ b o c, v = .slice (some ⟨b, o, none⟩) l.length c ∧ l.length ≤ c ∧ Reads r (some ⟨b, o, none⟩) (spC l)
theorem RdT.rds {r : HProp} {v : Value} {l : List Sp} (h : RdT r v l) : RdS r v l := by
  rcases h with ⟨rfl, rfl⟩ | ⟨b, o, c, h1, h2, h3⟩
  · exact RdS.nil _
  · exact ⟨_, c, h1, h2, fun _ => ⟨b, o, rfl⟩, h3⟩
theorem RdT.one {r : HProp} {v : Value} {l : List Sp} (h : RdT r v l) : One v := h.rds.one
/-- pairs of one's own -/
def SPO (l : List Sp) (v : Value) : HProp := fun h => (v = .slice none 0 0 ∧ l = []) ∨ ∃ b c t, v = .slice (some ⟨b, 0, none⟩) l.length c ∧ l.length ≤ c ∧ (spC l ++ t).length = c * 3 ∧ pts b (.cells (spC l ++ t).toArray 50 (0, 0)) h
theorem SPO.rd {l : List Sp} {q : Option (Nat × Nat × List Value)} (hq : NOk 3 (spC l) l.length q) : RdT (SPO l (nV l.length q)) (nV l.length q) l := by
  cases q with
  | none => exact .inl ⟨rfl, List.length_eq_zero_iff.1 (hq.2.1 rfl).2⟩
  | some y =>
    obtain ⟨b, c, t⟩ := y
    refine .inr ⟨b, 0, c, rfl, (hq.2.2 b c t rfl).1, fun hp w hh hf j v hj => ?_⟩
    rcases hh with ⟨h1, _⟩ | ⟨b', c', t', h1, _, _, hi⟩
    · cases h1
    · have h2 : b = b' := by
        have h3 : (Value.slice (some ⟨b, 0, none⟩) l.length c) = .slice (some ⟨b', 0, none⟩) l.length c' := h1
        simp only [Value.slice.injEq, Option.some.injEq, Addr.mk.injEq] at h3
        exact h3.1.1
      subst h2
      refine ⟨_, rfl, cell_row (hf _ _ _ hi.1) ?_⟩
      rw [Nat.zero_add, List.getElem?_append_left (List.getElem?_eq_some_iff.1 hj).1]
      exact hj
theorem SPO.own {w0 w : World} {l : List Sp} {q : Option (Nat × Nat × List Value)} (hq : NOk 3 (spC l) l.length q) {F : List Res} (k : Nat) (h : Sat w0 w (oR (SpG l) F q)) : Sat w0 w ((k, SPO l (nV l.length q)) :: F) := by
  cases q with
  | none =>
    have h3 : l = [] := List.length_eq_zero_iff.1 (hq.2.1 rfl).2
    subst h3
    refine Sat.ent h ?_
    intro x hx
    exact ⟨fun _ => none, x, fun _ => .inl rfl, by funext i; simp [hjoin], .inl ⟨rfl, rfl⟩, hx⟩
  | some y =>
    obtain ⟨b, c, t⟩ := y
    exact Sat.ent h (Ent.trans (Ent.head fun x hx => .inr ⟨b, c, t, rfl, (hq.2.2 b c t rfl).1, (hq.2.2 b c t rfl).2, hx⟩) (Ent.refl _))

/-- s[:k] -/
def takeT (v : Value) (k : Nat) : Value := match v with | .slice (some a) _ c => .slice (some a) (k - 0) (c - 0) | _ => .slice none 0 0
/-- s[k:] -/
def dropT (v : Value) (k : Nat) : Value := match v with | .slice (some a) m c => .slice (some ⟨a.block, if c = k then a.off else a.off + k * 3, none⟩) (m - k) (c - k) | _ => .slice none 0 0
theorem RdT.take {r : HProp} {v : Value} {l : List Sp} (h : RdT r v l) {k : Nat} (hk : k ≤ l.length) : RdT r (takeT v k) (l.take k) := by
  have hl : (l.take k).length = k := by rw [List.length_take]; omega
  rcases h with ⟨rfl, rfl⟩ | ⟨b, o, c, rfl, h2, h3⟩
  · exact .inl ⟨rfl, by simp⟩
  · refine .inr ⟨b, o, c, by rw [hl]; rfl, by omega, ?_⟩
    have := h3.sub3 0 k
    rw [List.drop_zero, Nat.zero_mul, Nat.add_zero] at this
    exact this
theorem RdT.drop {r : HProp} {v : Value} {l : List Sp} (h : RdT r v l) {k : Nat} (hk : k ≤ l.length) : RdT r (dropT v k) (l.drop k) := by
  have hl : (l.drop k).length = l.length - k := List.length_drop
  rcases h with ⟨rfl, rfl⟩ | ⟨b, o, c, rfl, h2, h3⟩
  · exact .inl ⟨rfl, by simp⟩
  · refine .inr ⟨b, if c = k then o else o + k * 3, c - k, by rw [hl]; rfl, by omega, ?_⟩
    split
    · have : l.drop k = [] := List.drop_eq_nil_of_le (by omega)
      rw [this]
      exact reads_nil _ _
    · have := h3.sub3 k l.length
      rwa [List.take_of_length_le (by rw [List.length_drop]; omega)] at this
section
variable {n : Nat} {w0 : World} {e : Env} {Rs : List Res} {ty : TypeId}
theorem runop_sliceNil {P : Program} {t el : TypeId} {nb sz : Nat} {x : Operand} {lo hi mx : Option Operand} {vl vh vm : Option Value} {li hi' mi : Int} {ok : Prop} {z : Value}
    [hx : Ev n e x (.slice none 0 0)] [h1 : EvO n e lo vl] [h2 : EvO n e hi vh] [h3 : EvO n e mx vm] [he : Elem P t el sz nb z] [hb : Bounds 0 0 vl vh vm li hi' mi ok] (hok : ok) (hl : li = 0 ∧ hi' = 0 ∧ mi = 0) :
    RunOp P n w0 e Rs (.slice t x lo hi mx) ty (.slice none 0 0) := by
  obtain ⟨rfl, rfl, rfl⟩ := hl
  obtain ⟨i0, hi0, hz0, hz1, hz2⟩ := info_parts he.info
  refine ⟨fun op ho _ w _ => ?_⟩
  unfold execOp; rw [ho]
  have h4 := hb.out hok P w
  simp [Instr.sliceAt, Instr.slice, run_underlying he.und, hx.out, h1.out, h2.out, h3.out, h4, sizeOf, typeInfo, hi0]
theorem runop_takeT {x y : Operand} {r : HProp} {v : Value} {l : List Sp} {i : Int} (k : Nat) (h : RdT r v l) (hk : i = k ∧ k ≤ l.length) [hx : Ev n e x v] [hy : Ev n e y (.int .i64 i)] :
    RunOp Try.prog n w0 e Rs (.slice 24 x none (some y) none) ty (takeT v k) := by
  obtain ⟨rfl, hk⟩ := hk
  rcases h with ⟨rfl, rfl⟩ | ⟨b, o, c, rfl, h2, h3⟩
  · have hk0 : k = 0 := by simpa using hk
    subst hk0
    exact runop_sliceNil (hx := hx) ⟨by omega, by omega⟩ ⟨rfl, rfl, rfl⟩
  · exact runop_sliceN (hx := hx) 0 k c o (by omega) ⟨rfl, rfl, rfl, by split <;> omega⟩
theorem runop_dropT {x y : Operand} {r : HProp} {v : Value} {l : List Sp} {i : Int} (k : Nat) (h : RdT r v l) (hk : i = k ∧ k ≤ l.length) [hx : Ev n e x v] [hy : Ev n e y (.int .i64 i)] :
    RunOp Try.prog n w0 e Rs (.slice 24 x (some y) none none) ty (dropT v k) := by
  obtain ⟨rfl, hk⟩ := hk
  rcases h with ⟨rfl, rfl⟩ | ⟨b, o, c, rfl, h2, h3⟩
  · have hk0 : k = 0 := by simpa using hk
    subst hk0
    exact runop_sliceNil (hx := hx) ⟨by omega, by omega⟩ ⟨rfl, rfl, rfl⟩
  · exact runop_sliceN (hx := hx) k l.length c (if c = k then o else o + k * 3) (by omega) ⟨rfl, rfl, rfl, rfl⟩
/-- len(s) -/
theorem runop_lenT {x : Operand} {r : HProp} {v : Value} {l : List Sp} (h : RdS r v l) [hx : Ev n e x v] : RunOp Try.prog n w0 e Rs (.call { callee := .builtin .len, args := [x].toArray, argTypes := [24].toArray }) ty (.int .i64 l.length) := by
  obtain ⟨a, c, rfl, _⟩ := h
  exact @RunOp.pure Try.prog n w0 e Rs _ _ _ (PureOp.sllen x a l.length c 24 50)
end

/-- rising, its pairs being one's own -/
theorem l19rising_own (kk k : Nat) (r : HProp) (v : Value) (l : List Sp) (most : Nat) (hv : RdS r v l) (hb : SpsB l) (hl : l.length ≤ 9223372036854775807) (hm : most ≤ 1000) : Spec Try.prog 17 [v, .int .i64 (most : Int)] [k] [r]
    fun F w Rs' => RdT (SPO (riseL most l) w) w (riseL most l) ∧ Rs' = (kk, SPO (riseL most l) w) :: (k, r) :: F := by
  intro w0 F w hw
  refine Calls.mono (l19rising_ok k r v l most hv hb hl hm w0 F w hw) ?_
  rintro x w' ⟨v', Rs', rfl, ⟨q, hq, rfl, rfl⟩, hs⟩
  exact ⟨_, _, rfl, ⟨SPO.rd hq, rfl⟩, SPO.own hq kk hs⟩
theorem ckLoad_own (kk p : Nat) (s : Dk) (f c : Int) (l : List Sp) (k : Int) (hf : I64 f) (hc : I64 c) (hk : k = nCk l) (hk2 : I64 k) (h : loadA s f c (nCk l) = (l, 0)) :
    Spec Try.prog 10 [.pointer (some ⟨p, 0, none⟩), .agg [.int .i64 f, .int .i64 c].toArray, .int .i64 k] [p] [DISK p s]
    fun F w Rs' => ∃ v, RdT (SPO l v) v l ∧ w = .tuple #[v, .int .i64 0] ∧ Rs' = (kk, SPO l v) :: (p, DISK p s) :: F := by
  intro w0 F w hw
  refine Calls.mono (ckLoad_up p s f c l k hf hc hk hk2 h w0 F w hw) ?_
  rintro x w' ⟨v', Rs', rfl, ⟨q, hq, rfl, rfl⟩, hs⟩
  exact ⟨_, _, rfl, ⟨_, SPO.rd hq, rfl, rfl⟩, SPO.own hq kk hs⟩
end Go.Gsl

namespace Go.Gsl
set_option linter.unusedVariables false
open Go.Proofs Go.RowKit Go.ChangeShapes Go.WideShapes
instance : Inhabited Sp := ⟨⟨[], [], 0⟩⟩
section
variable {H : Type} {enc : TypeId × Value → H} {W : World} {base : Nat} {fuel : Nat}
theorem cell_str {P : Program} {t : TypeId} {cs : Value} {y : DataW H × List MemPlace} (hu : P.underlying t = some .string) (h : DataW.trod enc P W 0 (fun _ => true) true fuel t [cs] = some y) : ∃ ns : List Int, cs = .string (strB ns) ∧ Byt ns := by
  obtain ⟨s, hs, _, _⟩ := DataW.trod_string hu h
  obtain ⟨ns, h1, _, h3⟩ := strB_all s
  exact ⟨ns, by rw [← h1]; simpa using hs, h3⟩
theorem l19cStr : Try.prog.cellsOf 9 = 1 := by kernel_rfl
theorem l19cI64 : Try.prog.cellsOf 2 = 1 := by kernel_rfl
theorem l19cSp : Try.prog.cellsOf 50 = 3 := by kernel_rfl
theorem l19bSp : Try.prog.bytesOf 50 = 40 := by kernel_rfl
theorem read_sp {cs : List Value} {x : DataW H × List MemPlace} (hl : cs.length = 3) (h : DataW.trod enc Try.prog W 0 (fun _ => true) true fuel 50 cs = some x) : ∃ o : Sp, cs = o.cs ∧ Byt o.key ∧ Byt o.val := by
  obtain ⟨n, hf⟩ := read_field Try.underlying50 h
  obtain ⟨c0, y0, e0, h0⟩ := hf 0 0 9 rfl l19cStr (by rw [l19cSp]; omega)
  obtain ⟨c1, y1, e1, h1⟩ := hf 1 1 9 rfl l19cStr (by rw [l19cSp]; omega)
  obtain ⟨c2, y2, e2, h2⟩ := hf 2 2 2 rfl l19cI64 (by rw [l19cSp]; omega)
  obtain ⟨k, rfl, w0⟩ := cell_str Try.underlying9 h0
  obtain ⟨v, rfl, w1⟩ := cell_str Try.underlying9 h1
  obtain ⟨t, rfl, w2⟩ := cell_int Try.underlying2 h2
  refine ⟨⟨k, v, t⟩, ?_, w0, w1⟩
  match cs, hl with
  | [a0, a1, a2], _ =>
    simp at e0 e1 e2
    subst e0 e1 e2
    rfl
theorem rds_of {a : Addr} {len cap : Nat} {g : Nat → Sp} (hl : len ≤ cap) (hg : ∀ i, i < len → CellsAt W (a.add (i * 3)) (g i).cs) : RdS (ro W) (.slice (some a) len cap) ((List.range len).map g) := by
  refine ⟨some a, cap, by simp, by simp; omega, fun h0 => ?_, reads_ro fun j v hj => ?_⟩
  · have h1 := hg 0 (by simpa using h0)
    rw [Nat.zero_mul, show a.add 0 = a by simp [Addr.add]] at h1
    exact ⟨a.block, a.off, by rw [← cells_plain (m := 2) rfl h1]⟩
  · have hlt := (List.getElem?_eq_some_iff.1 hj).1
    rw [spC_len, List.length_map, List.length_range] at hlt
    have hi : j / 3 < len := by omega
    have h2 := spC_elem (l := (List.range len).map g) (i := j / 3) (by simpa using hi)
    have h3 : ((spC ((List.range len).map g)).drop (j / 3 * 3))[j % 3]? = some v := by
      rw [List.getElem?_drop, show j / 3 * 3 + j % 3 = j by omega]
      exact hj
    have h4 : (((spC ((List.range len).map g)).drop (j / 3 * 3)).take 3)[j % 3]? = some v := by
      rw [List.getElem?_take, if_pos (by omega)]
      exact h3
    rw [h2] at h4
    simp only [List.getElem_map, List.getElem_range] at h4
    have h5 := hg (j / 3) hi (j % 3) v h4
    have h1 := hg 0 (by omega)
    rw [Nat.zero_mul, show a.add 0 = a by simp [Addr.add]] at h1
    have ha := cells_plain (m := 2) rfl h1
    refine ⟨a, rfl, ?_⟩
    rw [ha, add_plain, add_plain] at h5
    rw [ha, add_plain]
    rw [show a.off + j = a.off + j / 3 * 3 + j % 3 by omega]
    exact h5

set_option maxRecDepth 100000 in
theorem read_sps {v : Value} {d : DataW H} {p : List MemPlace} (ho : Value.okWide Try.prog W .any base 24 v) (h : DataW.Trod enc Try.prog W 0 (fun _ => true) true 24 v d p) :
    ∃ l : List Sp, RdS (ro W) v l ∧ SpsB l ∧ l.length ≤ 9223372036854775807 := by
  rcases read_slice (base := base) (v := v) (d := d) (p := p) (enc := enc) (W := W) Try.underlying24 ho h with rfl | ⟨a, len, cap, fuel, rfl, hl, hm, hel⟩
  · exact ⟨[], RdS.nil _, fun x hx => (by cases hx), by simp⟩
  · rw [l19cSp] at hel
    have hch : ∀ i, i < len → ∃ o : Sp, CellsAt W (a.add (i * 3)) o.cs ∧ Byt o.key ∧ Byt o.val := by
      intro i hi
      obtain ⟨es, y, hes, hc, ht⟩ := hel i hi
      obtain ⟨o, rfl, hw⟩ := read_sp hes ht
      exact ⟨o, hc, hw⟩
    obtain ⟨g, hg⟩ := Deep.choose_lt hch
    have hm2 : cap ≤ 9223372036854775807 := hm
    refine ⟨(List.range len).map g, rds_of hl fun i hi => (hg i hi).1, fun x hx => ?_, by simp; omega⟩
    obtain ⟨i, hi, rfl⟩ := List.mem_map.1 hx
    exact (hg i (List.mem_range.1 hi)).2
set_option maxRecDepth 100000 in
theorem read_sps_sz {ts : List TypeId} {ds : List (DataW H)} {j : Nat} {v : Value} {d : DataW H} {p : List MemPlace} (hz : (DataW.weightsEach Try.prog ts ds).all (· ≤ reachBytes) = true) (ht : ts[j]? = some 24) (hd : ds[j]? = some d)
    (ho : Value.okWide Try.prog W .any base 24 v) (h : DataW.Trod enc Try.prog W 0 (fun _ => true) true 24 v d p) :
    ∃ l : List Sp, RdS (ro W) v l ∧ SpsB l ∧ l.length ≤ 3518437208883 := by
  obtain ⟨l, h1, h2, _⟩ := read_sps ho h
  refine ⟨l, h1, h2, ?_⟩
  obtain ⟨a0, c0, rfl, _⟩ := h1
  obtain ⟨fuel, hf⟩ := h
  rcases Deep.open_slice Try.underlying24 hf with ⟨hcs, _⟩ | ⟨a, len, cap, m, n, D, Pl, hcs, _, hl, hm, hme, hx, hel⟩
  · simp [Value.cells] at hcs
    rw [hcs.2.1]
    simp
  · simp [Value.cells] at hcs
    have hdx : d = .slice ((List.range len).map D) ((List.range (m - len)).map fun j => D (len + j)) := congrArg Prod.fst hx
    rw [hdx] at hd
    have h3 := sized_slice hz ht hd Try.underlying24
    rw [l19bSp] at h3
    have h4 := reachBytes_lt
    simp only [List.length_map, List.length_range] at h3
    omega
end
end Go.Gsl
