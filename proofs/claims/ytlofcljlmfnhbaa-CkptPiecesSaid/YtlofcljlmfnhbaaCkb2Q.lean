/- Put in whatever pieces, the sectors are the same. -/
import Derived.Test.YtlofcljlmfnhbaaGT
import Derived.Test.YtlofcljlmfnhbaaGD
import Derived.Test.YtlofcljlmfnhbaaDiskEQ
namespace Go.Gsl
set_option linter.unusedVariables false
open Go.Proofs

set_option maxHeartbeats 4000000 in
theorem l19Pieces_ok (k : Nat) (r : HProp) (v cv : Value) (l : List Sp) (bs : List Int) (hv : RdS r v l) (hb : SpsB l) (hl : l.length ≤ 9223372036854775807) (hcv : RdBx r cv bs) (hcb : Byt bs) (hcl : bs.length ≤ 9223372036854775807) :
    Spec Try.prog 7 [v, cv] [k] [r] fun F w Rs' => w = .bool true ∧ Rs' = (k, r) :: F := by
  refine spec_of Try.func7 rfl Try.ntmps7 rfl ?_
  intro w0 F
  have hI1 : I64 1 := by unfold I64; omega
  have hI3 : I64 3 := by unfold I64; omega
  have hv1 := hv.one
  have hc1 := hcv.one
  repeat' (first | with_reducible (first | refine go1 ?_ | refine sct ?_ | refine scf ?_ | refine sgr ?_) | fail)
  refine sw_call dNew_60 ?_
  rintro _ _ ⟨p, rfl, rfl⟩
  repeat' (first | with_reducible (first | refine go1 ?_ | refine sct ?_ | refine scf ?_ | refine sgr ?_) | fail)
  refine sw_call dNew_60 ?_
  rintro _ _ ⟨p2, rfl, rfl⟩
  repeat' (first | with_reducible (first | refine go1 ?_ | refine sct ?_ | refine scf ?_ | refine sgr ?_) | ((with_reducible refine sw_call l19live_ok ?_); rintro _ _ ⟨rfl, rfl⟩) | (with_reducible refine sc_cond (fun h => ?_) (fun h => ?_)) <;> (try (exfalso; first | contradiction | omega | exact h Iff.rfl)) | (with_reducible refine sw_guard_split (fun h => ?_) (fun h => ?_)) <;> (try (exfalso; first | contradiction | omega | exact h Iff.rfl)) | (with_reducible refine sw_pick (fun h => ?_) (fun h => ?_)) <;> (try (exfalso; first | contradiction | omega | exact h Iff.rfl)) | fail)
  refine DISK.scwf' (p := p) (s := Dk.new 60) fun hwf => ?_
  refine sw_call (l19rising_own 7110 k r v l 32 hv hb hl (by omega)) ?_
  rintro v1 _ ⟨hT, rfl⟩
  have hro := riseL_ok 32 l
  have hrb : SpsB (riseL 32 l) := fun x hx => hb x (riseL_mem hx)
  generalize riseL 32 l = L at *
  have hv2 := hT.one
  repeat' (first | with_reducible (first | refine go1 ?_ | refine sct ?_ | refine scf ?_ | refine sgr ?_) | fail)
  refine sw_build [.int .i64 1, .int .i64 3] (by kernel_rfl) ?_
  refine sw_alloc fun b9 => ?_
  refine sw_store_agg ?_
  repeat' (first | with_reducible (first | refine go1 ?_ | refine sct ?_ | refine scf ?_ | refine sgr ?_) | fail)
  have ha : areaE 1 3 ((Dk.new 60).sure.length) = 0 := by rw [show (Dk.new 60).sure.length = 60 from List.length_replicate]; exact areaE_60 (by omega) (by omega) (by omega)
  have ha2 : areaE 1 3 (60 : Nat) = 0 := areaE_60 (by omega) (by omega) (by omega)
  have hnk : ∀ l : List Sp, l.length ≤ 32 → (nCk l : Int) ≤ 3 := fun l h => by unfold nCk; omega
  refine sw_call (ckNew_wr p (Dk.new 60) hwf 1 3 hI1 hI3 ha) ?_
  rintro _ _ ⟨q, rfl, rfl⟩
  repeat' (first | with_reducible (first | refine go1 ?_ | refine sct ?_ | refine scf ?_ | refine sgr ?_) | fail)
  refine sw_call (ckNew_wr p2 (Dk.new 60) hwf 1 3 hI1 hI3 ha) ?_
  rintro _ _ ⟨q2, rfl, rfl⟩
  have hput0 := ckPut_up q2 p2 7110 (Dk.new 60) (SPO L v1) 1 3 [] L v1 60 (Dk.new 60).now hI1 hI3 hT.rds (by rw [List.nil_append]; exact hro.1) (by rw [List.nil_append]; exact hrb) (by rw [List.nil_append]; exact hnk _ hro.2) ha2 (WSt.new 1 3)
  rw [List.nil_append] at hput0
  obtain ⟨a, cc, rfl, hcc, hcs, hcr⟩ := hcv
  repeat' (first | with_reducible (first | refine go1 ?_ | refine sct ?_ | refine scf ?_ | refine sgr ?_) | ((with_reducible refine sw_call hput0 ?_); rintro _ _ ⟨t1, ht1, rfl, rfl⟩) | (with_reducible refine sc_cond (fun h => ?_) (fun h => ?_)) <;> (try (exfalso; first | contradiction | omega | exact h Iff.rfl)) | (with_reducible refine sw_guard_split (fun h => ?_) (fun h => ?_)) <;> (try (exfalso; first | contradiction | omega | exact h Iff.rfl)) | (with_reducible refine sw_pick (fun h => ?_) (fun h => ?_)) <;> (try (exfalso; first | contradiction | omega | exact h Iff.rfl)) | fail)
  refine sc_loop (α := { x : Nat × List Sp × List Sp × Value × Dk // x.1 ≤ bs.length ∧ x.2.1 ++ x.2.2.1 = L ∧ RdT (SPO L v1) x.2.2.2.1 x.2.2.1 ∧ WSt 1 3 60 (Dk.new 60).now x.2.1 x.2.2.2.2 })
    (fun x => [(0, v1), (5, .pointer (some ⟨p, 0, none⟩)), (7, .pointer (some ⟨p2, 0, none⟩)), (10, .pointer (some ⟨q, 0, none⟩)), (11, .pointer (some ⟨q2, 0, none⟩)), (12, x.1.2.2.2.1), (64, .slice a bs.length cc), (65, .int .i64 (bs.length : Int)), (66, .int .i64 (x.1.1 : Int))])
    (fun x => (q, WR q p 1 3 (wRest x.1.2.1) (wN x.1.2.1) false) :: (p, DISK p x.1.2.2.2.2) :: (q2, WR q2 p2 1 3 (wRest L) (wN L) false) :: (p2, DISK p2 t1) :: (7110, SPO L v1) :: (k, r) :: F) (fun x => bs.length - x.1.1)
    ⟨(0, [], L, v1, Dk.new 60), Nat.zero_le _, rfl, hT, WSt.new 1 3⟩ ?_ ?_ ?_
  · repeat' (first | exact says_nil | refine says_cons rfl ?_ | refine says_cons (by simp) ?_)
  · repeat' (first | with_reducible exact Ent.refl _ | with_reducible refine Ent.take_eq ?_ ?_ | rfl | with_reducible refine Ent.oR ?_ | with_reducible refine Ent.trans (oR.drop _ _ _) ?_ | with_reducible refine Ent.trans (Ent.drop _ _) ?_)
  rintro ⟨⟨i, D, R, rv, s⟩, hx⟩ e
  obtain ⟨hi, hDR, hRT, hs⟩ := hx
  (try simp only at hi hDR hRT hs)
  simp only [List.cons_append, List.nil_append]
  have hrv1 := hRT.one
  have hlen : D.length + R.length ≤ 32 := by rw [← List.length_append, hDR]; exact hro.2
  repeat' (first | with_reducible refine sw_in (by omega) ?_ | with_reducible (first | refine go1 ?_ | refine sct ?_ | refine scf ?_ | refine sgr ?_) | (with_reducible refine sc_cond (fun h => ?_) (fun h => ?_)) <;> (try (exfalso; first | contradiction | omega | exact h Iff.rfl)) | fail)
  · have hi2 : i < bs.length := by omega
    obtain ⟨bb, oo, rfl⟩ := hcs (by omega)
    have hri : bs[i]? = some bs[i] := List.getElem?_eq_getElem hi2
    have hbx := hcb bs[i] (List.getElem_mem hi2)
    refine sw_index (by omega) ?_
    refine sw_load_rd k i (.int .u8 bs[i]) hcr (by rw [List.getElem?_map, hri]; rfl) (by omega) ?_
    generalize bs[i] = y at *
    repeat' (first | with_reducible refine sw_in (by omega) ?_ | with_reducible refine sw_rem_nn (by omega) ?_ | with_reducible (first | refine go1 ?_ | refine sct ?_ | refine scf ?_ | refine sgr ?_) | with_reducible refine sw_op (h := runop_lenT hRT.rds) ?_ | fail)
    obtain ⟨K, hK⟩ : ∃ K : Nat, (if y % 20 < (R.length : Int) then y % 20 else (R.length : Int)) = K := ⟨(min (y % 20) R.length).toNat, by split <;> omega⟩
    have hKl : K ≤ R.length := by split at hK <;> omega
    rw [hK]
    repeat' (first | with_reducible (first | refine go1 ?_ | refine sct ?_ | refine scf ?_ | refine sgr ?_) | fail)
    refine sw_op (h := runop_takeT K hRT ⟨rfl, hKl⟩) ?_
    have hsub : (D ++ R.take K).Sublist L := by rw [← hDR]; exact (List.Sublist.refl _).append (List.take_sublist _ _)
    have hput := ckPut_up q p 7110 s (SPO L v1) 1 3 D (R.take K) (takeT rv K) 60 (Dk.new 60).now hI1 hI3 (hRT.take hKl).rds (hro.1.sub hsub) (fun x hx => hrb x (hsub.subset hx)) (hnk _ (by rw [List.length_append, List.length_take]; omega)) ha2 hs
    refine sw_call hput ?_
    rintro _ _ ⟨s1, hs1, rfl, rfl⟩
    repeat' (first | with_reducible (first | refine go1 ?_ | refine sct ?_ | refine scf ?_ | refine sgr ?_) | fail)
    refine sw_op (h := runop_dropT K hRT ⟨rfl, hKl⟩) ?_
    repeat' (first | with_reducible refine sw_in (by omega) ?_ | with_reducible (first | refine go1 ?_ | refine sct ?_ | refine scf ?_ | refine sgr ?_) | fail)
    refine sq_round ⟨(i + 1, D ++ R.take K, R.drop K, dropT rv K, s1), by simp only; omega, by simp only; rw [List.append_assoc, List.take_append_drop, hDR], hRT.drop hKl, hs1⟩ ?_ ?_ ?_
    · show bs.length - (i + 1) < bs.length - i
      omega
    · repeat' (first | exact says_nil | refine says_cons rfl ?_ | refine says_cons (by simp) ?_)
    · repeat' (first | with_reducible exact Ent.refl _ | with_reducible refine Ent.take_eq ?_ ?_ | rfl | with_reducible refine Ent.oR ?_ | with_reducible refine Ent.trans (oR.drop _ _ _) ?_ | with_reducible refine Ent.trans (Ent.drop _ _) ?_)
  · have hput := ckPut_up q p 7110 s (SPO L v1) 1 3 D R rv 60 (Dk.new 60).now hI1 hI3 hRT.rds (by rw [hDR]; exact hro.1) (by rw [hDR]; exact hrb) (by rw [hDR]; exact hnk _ hro.2) ha2 hs
    rw [hDR] at hput
    repeat' (first | with_reducible (first | refine go1 ?_ | refine sct ?_ | refine scf ?_ | refine sgr ?_) | ((with_reducible refine sw_call hput ?_); rintro _ _ ⟨s1, hs1, rfl, rfl⟩) | (with_reducible refine sc_cond (fun h => ?_) (fun h => ?_)) <;> (try (exfalso; first | contradiction | omega | exact h Iff.rfl)) | fail)
    have hdone := ckDone_up q p s1 1 3 L 60 (Dk.new 60).now hI1 hI3 hro.1 hrb (hnk _ hro.2) ha2 hs1
    refine sw_call hdone ?_
    rintro _ _ ⟨s2, hs2, rfl, rfl⟩
    repeat' (first | with_reducible (first | refine go1 ?_ | refine sct ?_ | refine scf ?_ | refine sgr ?_) | fail)
    have hdone2 := ckDone_up q2 p2 t1 1 3 L 60 (Dk.new 60).now hI1 hI3 hro.1 hrb (hnk _ hro.2) ha2 ht1
    refine sw_call hdone2 ?_
    rintro _ _ ⟨t2, ht2, rfl, rfl⟩
    repeat' (first | with_reducible (first | refine go1 ?_ | refine sct ?_ | refine scf ?_ | refine sgr ?_) | ((with_reducible refine sw_call (dSame_ok p p2 s2 t2) ?_); rintro _ _ ⟨y, hy, rfl, rfl⟩) | (with_reducible refine sc_cond (fun h => ?_) (fun h => ?_)) <;> (try (exfalso; first | contradiction | omega | exact h Iff.rfl)) | (with_reducible refine sw_guard_split (fun h => ?_) (fun h => ?_)) <;> (try (exfalso; first | contradiction | omega | exact h Iff.rfl)) | (with_reducible refine sw_pick (fun h => ?_) (fun h => ?_)) <;> (try (exfalso; first | contradiction | omega | exact h Iff.rfl)) | fail)
    have hyt : y = true := hy.2 ⟨by rw [hs2.len, ht2.len], fun i hi => by
      have h60 := hs2.len
      rw [hs2.now i (by omega) (by omega), ht2.now i (by omega) (by omega)]⟩
    subst hyt
    refine sq_ret1 Try.results7 ?_
    refine ⟨_, ⟨rfl, rfl⟩, ?_⟩
    repeat' (first | with_reducible exact Ent.refl _ | with_reducible refine Ent.take_eq ?_ ?_ | rfl | with_reducible refine Ent.oR ?_ | with_reducible refine Ent.trans (oR.drop _ _ _) ?_ | with_reducible refine Ent.trans (Ent.drop _ _) ?_)
end Go.Gsl
