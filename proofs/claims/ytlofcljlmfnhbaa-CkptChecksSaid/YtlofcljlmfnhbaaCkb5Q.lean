/- Pairs cut into chunks by the document; which chunks are the same. -/
import Derived.Test.YtlofcljlmfnhbaaCkb3Q
namespace Go.Gsl
set_option linter.unusedVariables false
open Go.Proofs

set_option maxHeartbeats 1000000 in
theorem r3SameChunk_same (k1 k2 : Nat) (r1 r2 : HProp) (v1 v2 : Value) (c : Ck) (h1 : RdS r1 v1 c.l) (h2 : RdS r2 v2 c.l) (hb : SpsB c.l) (hl : c.l.length ≤ 4611686018427387904) : Spec Try.prog 24 [.agg (ckV c.num v1 c.last).toArray, .agg (ckV c.num v2 c.last).toArray] [k1, k2] [r1, r2]
    fun F w Rs' => w = .bool true ∧ Rs' = (k1, r1) :: (k2, r2) :: F := by
  have hv1 := h1.one
  have hv2 := h2.one
  refine spec_of Try.func24 rfl Try.ntmps24 rfl ?_
  intro w0 F
  repeat' (first | with_reducible (first | refine go1 ?_ | refine sct ?_ | refine scf ?_ | refine sgr ?_) | fail)
  refine sw_box fun b1 => ?_
  refine sw_box fun b2 => ?_
  have hs := r3SamePairs_same k1 k2 r1 r2 v1 v2 c.l h1 h2 hb hl
  repeat' (first | with_reducible (first | refine go1 ?_ | refine sct ?_ | refine scf ?_ | refine sgr ?_) | with_reducible refine sw_guard_skip_u ?_ | ((with_reducible refine sw_call hs ?_); rintro _ _ ⟨rfl, rfl⟩) | (with_reducible refine sc_cond (fun h => ?_) (fun h => ?_)) <;> (try (exfalso; first | contradiction | omega | exact h Iff.rfl)) | (with_reducible refine sw_guard_split (fun h => ?_) (fun h => ?_)) <;> (try (exfalso; first | contradiction | omega | exact h Iff.rfl)) | (with_reducible refine sw_pick (fun h => ?_) (fun h => ?_)) <;> (try (exfalso; first | contradiction | omega | exact h Iff.rfl)) | fail)
  refine sq_ret1 Try.results24 ?_
  refine ⟨_, ⟨rfl, rfl⟩, ?_⟩
  repeat' (first | with_reducible exact Ent.refl _ | with_reducible refine Ent.take_eq ?_ ?_ | rfl | with_reducible refine Ent.oR ?_ | with_reducible refine Ent.trans (oR.drop _ _ _) ?_ | with_reducible refine Ent.trans (Ent.drop _ _) ?_)

theorem ckAll_len : ∀ ms : List (Ck × Value), (ckAll ms).length = ms.length * 3
  | [] => rfl
  | x :: ms => by
    have : ckAll (x :: ms) = ckV x.1.num x.2 x.1.last ++ ckAll ms := rfl
    rw [this, List.length_append, ckAll_len ms, List.length_cons]
    simp only [List.length_cons, List.length_nil]
    omega

set_option maxHeartbeats 4000000 in
theorem r19Cut_ok (k : Nat) (r : HProp) (v : Value) (l : List Sp) (hv : RdS r v l) (hl : l.length ≤ 3518437208883) : Spec Try.prog 22 [v] [k] [r]
    fun F w Rs' => ∃ ms q, (ms : List (Ck × Value)).map Prod.fst = (List.range (nCk l)).map (ckAt l) ∧ (∀ y ∈ ms, RdS r y.2 y.1.l) ∧ NOk 3 (ckAll ms) ms.length q ∧ w = nV ms.length q ∧ Rs' = oR (nG 28 (ckAll ms)) ((k, r) :: F) q := by
  refine spec_of Try.func22 rfl Try.ntmps22 rfl ?_
  intro w0 F
  repeat' (first | with_reducible (first | refine go1 ?_ | refine sct ?_ | refine scf ?_ | refine sgr ?_) | fail)
  refine sc_loop (α := { x : List (Ck × Value) × Value × Option (Nat × Nat × List Value) // x.1.length ≤ wN l ∧ x.1.map Prod.fst = (List.range x.1.length).map (ckAt l) ∧ (∀ y ∈ x.1, RdS r y.2 y.1.l) ∧ NOk 3 (ckAll x.1) x.1.length x.2.2 ∧ RdS r x.2.1 (l.drop (16 * x.1.length)) })
    (fun x => [(0, x.1.2.1), (3, nV x.1.1.length x.1.2.2)]) (fun x => oR (nG 28 (ckAll x.1.1)) ((k, r) :: F) x.1.2.2) (fun x => l.length - x.1.1.length)
    ⟨([], v, none), Nat.zero_le _, rfl, fun y hy => (by cases hy), ⟨rfl, fun _ => ⟨rfl, rfl⟩, fun b c t h => (by cases h)⟩, hv⟩ ?_ ?_ ?_
  · repeat' (first | exact says_nil | refine says_cons rfl ?_ | refine says_cons (by simp) ?_)
  · show Ent _ ((k, r) :: F)
    repeat' (first | with_reducible exact Ent.refl _ | with_reducible refine Ent.take_eq ?_ ?_ | rfl | with_reducible refine Ent.oR ?_ | with_reducible refine Ent.trans (oR.drop _ _ _) ?_ | with_reducible refine Ent.trans (Ent.drop _ _) ?_)
  rintro ⟨⟨ms, rv, q⟩, hx⟩ e
  have hx' := hx
  obtain ⟨hm, hmap, hrd, hq, hrv⟩ := hx'
  (try simp only at hm hmap hrd hq hrv)
  simp only [List.cons_append, List.nil_append]
  have hrv1 := hrv.one
  have hwl : 16 * wN l ≤ l.length := by unfold wN; omega
  have hq0 : q = none → ms.length = 0 := fun h => (hq.2.1 h).2
  repeat' (first | with_reducible (first | refine go1 ?_ | refine sct ?_ | refine scf ?_ | refine sgr ?_) | with_reducible refine sw_op (h := runop_lenT hrv) ?_ | (with_reducible refine sc_cond (fun h => ?_) (fun h => ?_)) <;> (try (exfalso; first | contradiction | omega | exact h Iff.rfl)) | fail)
  · have h16 : 16 < (l.drop (16 * ms.length)).length := by omega
    obtain ⟨t1, t2, t3⟩ := put_turn h16
    obtain ⟨a, cp, rfl, hcp, hsome, hr⟩ := hrv
    obtain ⟨b, o, rfl⟩ := hsome (by omega)
    have hrt : RdS r (.slice (some ⟨b, o, none⟩) (16 - 0) (cp - 0)) ((l.drop (16 * ms.length)).take 16) := by
      have h9 := hr.sub3 0 16
      rw [List.drop_zero, Nat.zero_mul, Nat.add_zero] at h9
      exact ⟨_, cp, by rw [List.length_take, show min 16 (l.drop (16 * ms.length)).length = 16 by omega]; rfl, by rw [List.length_take]; omega, fun _ => ⟨b, o, rfl⟩, h9⟩
    have hrdrop : RdS r (.slice (some ⟨b, o + 16 * 3, none⟩) ((l.drop (16 * ms.length)).length - 16) (cp - 16)) ((l.drop (16 * ms.length)).drop 16) := by
      have h9 := hr.sub3 16 (l.drop (16 * ms.length)).length
      rw [List.take_of_length_le (by rw [List.length_drop (i := 16)]; omega)] at h9
      exact ⟨_, cp - 16, by rw [List.length_drop (i := 16)], by rw [List.length_drop (i := 16)]; omega, fun _ => ⟨b, _, rfl⟩, h9⟩
    refine sw_op (h := runop_lenNV q hq0) ?_
    repeat' (first | with_reducible (first | refine go1 ?_ | refine sct ?_ | refine scf ?_ | refine sgr ?_) | fail)
    refine sw_op (h := runop_sliceN 0 16 cp o (by omega) ⟨rfl, rfl, rfl, by split <;> omega⟩) ?_
    refine sw_build (ckV (ms.length : Int) (.slice (some ⟨b, o, none⟩) (16 - 0) (cp - 0)) false) (by kernel_rfl) ?_
    refine sw_buildSliceN (ckV (ms.length : Int) (.slice (some ⟨b, o, none⟩) (16 - 0) (cp - 0)) false) ⟨by omega, by omega, by omega⟩ (by kernel_rfl) fun b12 => ?_
    refine sw_appendNV (nb := 40) (ckAll ms) (ckV (ms.length : Int) (.slice (some ⟨b, o, none⟩) (16 - 0) (cp - 0)) false) ms.length q hq (ckV_one rfl) rfl (by omega) ⟨rfl, by omega, by omega⟩ fun q2 hne hq2 => ?_
    have hsn : ckAll ms ++ ckV (ms.length : Int) (.slice (some ⟨b, o, none⟩) (16 - 0) (cp - 0)) false = ckAll (ms ++ [(ckAt l ms.length, .slice (some ⟨b, o, none⟩) (16 - 0) (cp - 0))]) := by rw [ckAll_snoc, t2]
    have hln : ms.length + 1 = (ms ++ [(ckAt l ms.length, Value.slice (some ⟨b, o, none⟩) (16 - 0) (cp - 0))]).length := by simp
    rw [hsn] at hq2 ⊢
    rw [hln] at hq2 ⊢
    repeat' (first | with_reducible (first | refine go1 ?_ | refine sct ?_ | refine scf ?_ | refine sgr ?_) | fail)
    refine sw_op (h := runop_sliceN 16 (l.drop (16 * ms.length)).length cp (o + 16 * 3) (by omega) ⟨rfl, rfl, rfl, by rw [if_neg (by omega)]⟩) ?_
    repeat' (first | with_reducible (first | refine go1 ?_ | refine sct ?_ | refine scf ?_ | refine sgr ?_) | fail)
    refine sq_round ⟨(ms ++ [(ckAt l ms.length, .slice (some ⟨b, o, none⟩) (16 - 0) (cp - 0))], .slice (some ⟨b, o + 16 * 3, none⟩) ((l.drop (16 * ms.length)).length - 16) (cp - 16), q2), ?_, ?_, ?_, hq2, ?_⟩ ?_ ?_ ?_
    · simp only
      rw [← hln]
      omega
    · simp only
      rw [← hln, List.range_succ, List.map_append, List.map_append, hmap]
      rfl
    · intro y hy
      rcases List.mem_append.1 hy with hy | hy
      · exact hrd y hy
      · rw [List.mem_singleton.1 hy]
        simp only [t2]
        exact hrt
    · simp only
      rw [← hln, ← t3]
      exact hrdrop
    · show l.length - (ms ++ [(ckAt l ms.length, Value.slice (some ⟨b, o, none⟩) (16 - 0) (cp - 0))]).length < l.length - ms.length
      rw [← hln]
      omega
    · repeat' (first | exact says_nil | refine says_cons rfl ?_ | refine says_cons (by simp) ?_)
    · repeat' (first | with_reducible exact Ent.refl _ | with_reducible refine Ent.take_eq ?_ ?_ | rfl | with_reducible refine Ent.oR ?_ | with_reducible refine Ent.trans (oR.drop _ _ _) ?_ | with_reducible refine Ent.trans (Ent.drop _ _) ?_)
  · obtain ⟨u1, u2⟩ := put_end hm (by omega)
    obtain ⟨w1, w2⟩ := done_ck l
    rw [u2] at hrv
    have hrv9 := hrv
    obtain ⟨a, cp, rfl, hcp, _, _⟩ := hrv9
    clear hrv1
    refine sw_op (h := runop_lenNV q hq0) ?_
    repeat' (first | with_reducible (first | refine go1 ?_ | refine sct ?_ | refine scf ?_ | refine sgr ?_) | fail)
    refine sw_build (ckV (ms.length : Int) (.slice a (wRest l).length cp) true) (by kernel_rfl) ?_
    refine sw_buildSliceN (ckV (ms.length : Int) (.slice a (wRest l).length cp) true) ⟨by omega, by omega, by omega⟩ (by kernel_rfl) fun b12 => ?_
    refine sw_appendNV (nb := 40) (ckAll ms) (ckV (ms.length : Int) (.slice a (wRest l).length cp) true) ms.length q hq (ckV_one rfl) rfl (by omega) ⟨rfl, by omega, by omega⟩ fun q2 hne hq2 => ?_
    have hsn : ckAll ms ++ ckV (ms.length : Int) (.slice a (wRest l).length cp) true = ckAll (ms ++ [(ckAt l (wN l), Value.slice a (wRest l).length cp)]) := by rw [ckAll_snoc, w1, ← u1]
    have hln : ms.length + 1 = (ms ++ [(ckAt l (wN l), Value.slice a (wRest l).length cp)]).length := by simp
    rw [hsn] at hq2 ⊢
    rw [hln] at hq2 ⊢
    repeat' (first | with_reducible (first | refine go1 ?_ | refine sct ?_ | refine scf ?_ | refine sgr ?_) | fail)
    refine sq_ret1 Try.results22 ?_
    refine ⟨_, ⟨ms ++ [(ckAt l (wN l), Value.slice a (wRest l).length cp)], q2, ?_, ?_, hq2, rfl, rfl⟩, ?_⟩
    · rw [w2, List.range_succ, List.map_append, List.map_append, hmap, u1]
      rfl
    · intro y hy
      rcases List.mem_append.1 hy with hy | hy
      · exact hrd y hy
      · rw [List.mem_singleton.1 hy]
        simp only [w1]
        exact hrv
    · repeat' (first | with_reducible exact Ent.refl _ | with_reducible refine Ent.take_eq ?_ ?_ | rfl | with_reducible refine Ent.oR ?_ | with_reducible refine Ent.trans (oR.drop _ _ _) ?_ | with_reducible refine Ent.trans (Ent.drop _ _) ?_)
end Go.Gsl
