/- What was put and done is loaded. -/
import Derived.Test.YtlofcljlmfnhbaaGT
import Derived.Test.YtlofcljlmfnhbaaGD
namespace Go.Gsl
set_option linter.unusedVariables false
open Go.Proofs

/-- a crash, all being sure -/
theorem gone_sure {s : Dk} {ks : List Int} {bs : List Bool} (h : s.dirty = fun _ => none) (hk : KeysD s.dirty ks) : (s.gone ks bs).up.now = s.now ∧ (s.gone ks bs).up.sure = s.sure ∧ (s.gone ks bs).up.down = false := by
  have hks : ks = [] := List.eq_nil_iff_forall_not_mem.2 fun i hi => by
    have := (hk.mem i).1 hi
    rw [h] at this
    cases this
  subst hks
  refine ⟨?_, rfl, rfl⟩
  funext j
  have h1 : s.dirty j = none := by rw [h]
  unfold Dk.now
  rw [h1]
  rfl

set_option maxHeartbeats 4000000 in
theorem l19Back_ok (k : Nat) (r : HProp) (v cv kv : Value) (l : List Sp) (bs : List Int) (keep : List Bool) (hv : RdS r v l) (hb : SpsB l) (hl : l.length ≤ 9223372036854775807) (hcv : RdBx r cv bs) (hcb : Byt bs) (hcl : bs.length ≤ 9223372036854775807) (hkv : RdBools r kv keep) (hkl : keep.length ≤ 9223372036854775807) :
    Spec Try.prog 6 [v, cv, kv] [k] [r] fun F w Rs' => w = .bool true ∧ Rs' = (k, r) :: F := by
  refine spec_of Try.func6 rfl Try.ntmps6 rfl ?_
  intro w0 F
  have hI2 : I64 2 := by unfold I64; omega
  have hI5 : I64 5 := by unfold I64; omega
  have hv1 := hv.one
  have hc1 := hcv.one
  repeat' (first | with_reducible (first | refine go1 ?_ | refine sct ?_ | refine scf ?_ | refine sgr ?_) | ((with_reducible refine sw_call dNew_60 ?_); rintro _ _ ⟨p, rfl, rfl⟩) | ((with_reducible refine sw_call l19live_ok ?_); rintro _ _ ⟨rfl, rfl⟩) | (with_reducible refine sc_cond (fun h => ?_) (fun h => ?_)) <;> (try (exfalso; first | contradiction | omega | exact h Iff.rfl)) | (with_reducible refine sw_guard_split (fun h => ?_) (fun h => ?_)) <;> (try (exfalso; first | contradiction | omega | exact h Iff.rfl)) | (with_reducible refine sw_pick (fun h => ?_) (fun h => ?_)) <;> (try (exfalso; first | contradiction | omega | exact h Iff.rfl)) | fail)
  refine DISK.scwf' (p := p) (s := Dk.new 60) fun hwf => ?_
  refine sw_call (l19rising_own 7110 k r v l 32 hv hb hl (by omega)) ?_
  rintro v1 _ ⟨hT, rfl⟩
  have hro := riseL_ok 32 l
  have hrb : SpsB (riseL 32 l) := fun x hx => hb x (riseL_mem hx)
  generalize riseL 32 l = L at *
  have hv2 := hT.one
  repeat' (first | with_reducible (first | refine go1 ?_ | refine sct ?_ | refine scf ?_ | refine sgr ?_) | fail)
  refine sw_build [.int .i64 5, .int .i64 2] (by kernel_rfl) ?_
  refine sw_alloc fun b9 => ?_
  refine sw_store_agg ?_
  repeat' (first | with_reducible (first | refine go1 ?_ | refine sct ?_ | refine scf ?_ | refine sgr ?_) | fail)
  have ha : areaE 5 2 ((Dk.new 60).sure.length) = 0 := by rw [show (Dk.new 60).sure.length = 60 from List.length_replicate]; exact areaE_60 (by omega) (by omega) (by omega)
  have ha2 : areaE 5 2 (60 : Nat) = 0 := areaE_60 (by omega) (by omega) (by omega)
  refine sw_call (ckNew_wr p (Dk.new 60) hwf 5 2 hI5 hI2 ha) ?_
  rintro _ _ ⟨q, rfl, rfl⟩
  obtain ⟨a, cc, rfl, hcc, hcs, hcr⟩ := hcv
  repeat' (first | with_reducible (first | refine go1 ?_ | refine sct ?_ | refine scf ?_ | refine sgr ?_) | (with_reducible refine sc_cond (fun h => ?_) (fun h => ?_)) <;> (try (exfalso; first | contradiction | omega | exact h Iff.rfl)) | fail)
  have hnk : ∀ l : List Sp, l.length ≤ 32 → (nCk l : Int) ≤ 2 := fun l h => by unfold nCk; omega
  refine sc_loop (α := { x : Nat × List Sp × List Sp × Value × Dk // x.1 ≤ bs.length ∧ x.2.1 ++ x.2.2.1 = L ∧ RdT (SPO L v1) x.2.2.2.1 x.2.2.1 ∧ WSt 5 2 60 (Dk.new 60).now x.2.1 x.2.2.2.2 })
    (fun x => [(0, v1), (2, kv), (7, .pointer (some ⟨p, 0, none⟩)), (9, .pointer (some ⟨b9, 0, none⟩)), (10, .pointer (some ⟨q, 0, none⟩)), (11, x.1.2.2.2.1), (43, .slice a bs.length cc), (44, .int .i64 (bs.length : Int)), (45, .int .i64 (x.1.1 : Int))])
    (fun x => (q, WR q p 5 2 (wRest x.1.2.1) (wN x.1.2.1) false) :: (p, DISK p x.1.2.2.2.2) :: (b9, pts b9 (.cells [.int .i64 5, .int .i64 2].toArray 23 (0, 0))) :: (7110, SPO L v1) :: (k, r) :: F) (fun x => bs.length - x.1.1)
    ⟨(0, [], L, v1, Dk.new 60), Nat.zero_le _, rfl, hT, WSt.new 5 2⟩ ?_ ?_ ?_
  · repeat' (first | exact says_nil | refine says_cons rfl ?_ | refine says_cons (by simp) ?_)
  · repeat' (first | with_reducible exact Ent.refl _ | with_reducible refine Ent.take_eq ?_ ?_ | rfl | with_reducible refine Ent.oR ?_ | with_reducible refine Ent.trans (oR.drop _ _ _) ?_ | with_reducible refine Ent.trans (Ent.drop _ _) ?_)
  rintro ⟨⟨i, D, R, rv, s⟩, hx⟩ e
  obtain ⟨hi, hDR, hRT, hs⟩ := hx
  (try simp only at hi hDR hRT hs)
  simp only [List.cons_append, List.nil_append]
  have hrv1 := hRT.one
  have hlen : D.length + R.length ≤ 32 := by rw [← List.length_append, hDR]; exact hro.2
  repeat' (first | with_reducible refine sw_in (by omega) ?_ | with_reducible (first | refine go1 ?_ | refine sct ?_ | refine scf ?_ | refine sgr ?_) | (with_reducible refine sc_cond (fun h => ?_) (fun h => ?_)) <;> (try (exfalso; first | contradiction | omega | exact h Iff.rfl)) | fail)
  · have hi2 : i < bs.length := by omega
    obtain ⟨bb, oo, rfl⟩ := hcs (by omega)
    have hri : bs[i]? = some bs[i] := List.getElem?_eq_getElem hi2
    have hbx := hcb bs[i] (List.getElem_mem hi2)
    refine sw_index (by omega) ?_
    refine sw_load_rd k i (.int .u8 bs[i]) hcr (by rw [List.getElem?_map, hri]; rfl) (by omega) ?_
    generalize bs[i] = y at *
    repeat' (first | with_reducible refine sw_in (by omega) ?_ | with_reducible refine sw_rem_nn (by omega) ?_ | with_reducible (first | refine go1 ?_ | refine sct ?_ | refine scf ?_ | refine sgr ?_) | with_reducible refine sw_op (h := runop_lenT hRT.rds) ?_ | fail)
    obtain ⟨K, hK⟩ : ∃ K : Nat, (if y % 20 < (R.length : Int) then y % 20 else (R.length : Int)) = K := ⟨(min (y % 20) R.length).toNat, by split <;> omega⟩
    have hKl : K ≤ R.length := by split at hK <;> omega
    rw [hK]
    repeat' (first | with_reducible (first | refine go1 ?_ | refine sct ?_ | refine scf ?_ | refine sgr ?_) | fail)
    refine sw_op (h := runop_takeT K hRT ⟨rfl, hKl⟩) ?_
    have hsub : (D ++ R.take K).Sublist L := by rw [← hDR]; exact (List.Sublist.refl _).append (List.take_sublist _ _)
    have hput := ckPut_up q p 7110 s (SPO L v1) 5 2 D (R.take K) (takeT rv K) 60 (Dk.new 60).now hI5 hI2 (hRT.take hKl).rds (hro.1.sub hsub) (fun x hx => hrb x (hsub.subset hx)) (hnk _ (by rw [List.length_append, List.length_take]; omega)) ha2 hs
    refine sw_call hput ?_
    rintro _ _ ⟨s1, hs1, rfl, rfl⟩
    repeat' (first | with_reducible (first | refine go1 ?_ | refine sct ?_ | refine scf ?_ | refine sgr ?_) | (with_reducible refine sc_cond (fun h => ?_) (fun h => ?_)) <;> (try (exfalso; first | contradiction | omega | exact h Iff.rfl)) | fail)
    refine sw_op (h := runop_dropT K hRT ⟨rfl, hKl⟩) ?_
    repeat' (first | with_reducible refine sw_in (by omega) ?_ | with_reducible (first | refine go1 ?_ | refine sct ?_ | refine scf ?_ | refine sgr ?_) | fail)
    refine sq_round ⟨(i + 1, D ++ R.take K, R.drop K, dropT rv K, s1), by simp only; omega, by simp only; rw [List.append_assoc, List.take_append_drop, hDR], hRT.drop hKl, hs1⟩ ?_ ?_ ?_
    · show bs.length - (i + 1) < bs.length - i
      omega
    · repeat' (first | exact says_nil | refine says_cons rfl ?_ | refine says_cons (by simp) ?_)
    · repeat' (first | with_reducible exact Ent.refl _ | with_reducible refine Ent.take_eq ?_ ?_ | rfl | with_reducible refine Ent.oR ?_ | with_reducible refine Ent.trans (oR.drop _ _ _) ?_ | with_reducible refine Ent.trans (Ent.drop _ _) ?_)
  · have hput := ckPut_up q p 7110 s (SPO L v1) 5 2 D R rv 60 (Dk.new 60).now hI5 hI2 hRT.rds (by rw [hDR]; exact hro.1) (by rw [hDR]; exact hrb) (by rw [hDR]; exact hnk _ hro.2) ha2 hs
    rw [hDR] at hput
    repeat' (first | with_reducible (first | refine go1 ?_ | refine sct ?_ | refine scf ?_ | refine sgr ?_) | ((with_reducible refine sw_call hput ?_); rintro _ _ ⟨s1, hs1, rfl, rfl⟩) | (with_reducible refine sc_cond (fun h => ?_) (fun h => ?_)) <;> (try (exfalso; first | contradiction | omega | exact h Iff.rfl)) | fail)
    have hdone := ckDone_up q p s1 5 2 L 60 (Dk.new 60).now hI5 hI2 hro.1 hrb (hnk _ hro.2) ha2 hs1
    refine sw_call hdone ?_
    rintro _ _ ⟨s2, hs2, rfl, rfl⟩
    have hWr := ckWritten_wr q p 5 2 [] (nCk L : Int) true
    have hPd := ckPut_done q p 5 2 [] (nCk L : Int) (.slice none 0 0)
    have hlk0 : s2.looks 0 = 0 := Dk.looks_ok hs2.up.1 (by omega) (by rw [hs2.len]; omega)
    repeat' (first | with_reducible (first | refine go1 ?_ | refine sct ?_ | refine scf ?_ | refine sgr ?_) | ((with_reducible refine sw_call hWr ?_); rintro _ _ ⟨rfl, rfl⟩) | ((with_reducible refine sw_call hPd ?_); rintro _ _ ⟨rfl, rfl⟩) | (with_reducible refine sc_cond (fun h => ?_) (fun h => ?_)) <;> (try (exfalso; first | contradiction | omega | exact h Iff.rfl)) | (with_reducible refine sw_guard_split (fun h => ?_) (fun h => ?_)) <;> (try (exfalso; first | contradiction | omega | exact h Iff.rfl)) | (with_reducible refine sw_pick (fun h => ?_) (fun h => ?_)) <;> (try (exfalso; first | contradiction | omega | exact h Iff.rfl)) | fail)
    refine sw_call (dCrash_ok p k s2 r kv keep hkv hkl hlk0) ?_
    rintro _ _ ⟨ks, hks, rfl, rfl⟩
    obtain ⟨hg1, hg2, hg3⟩ := gone_sure (bs := keep) hs2.dirty hks
    have hRst : Spec Try.prog 26 [.pointer (some ⟨p, 0, none⟩)] [p] [DISK p (s2.gone ks keep)] fun F v Rs' => v = .int .i64 0 ∧ Rs' = (p, DISK p (s2.gone ks keep).up) :: F := dRestart_up p _
    generalize (s2.gone ks keep).up = s3 at *
    repeat' (first | with_reducible (first | refine go1 ?_ | refine sct ?_ | refine scf ?_ | refine sgr ?_) | ((with_reducible refine sw_call hRst ?_); rintro _ _ ⟨rfl, rfl⟩) | (with_reducible refine sc_cond (fun h => ?_) (fun h => ?_)) <;> (try (exfalso; first | contradiction | omega | exact h Iff.rfl)) | (with_reducible refine sw_guard_split (fun h => ?_) (fun h => ?_)) <;> (try (exfalso; first | contradiction | omega | exact h Iff.rfl)) | (with_reducible refine sw_pick (fun h => ?_) (fun h => ?_)) <;> (try (exfalso; first | contradiction | omega | exact h Iff.rfl)) | fail)
    have hload := ckLoad_own 7111 p s3 5 2 L (nCk L : Int) hI5 hI2 rfl (by unfold I64; have := hnk _ hro.2; omega) (loadA_of (N := 60) (g := (Dk.new 60).now) hro.1 hrb (hnk _ hro.2) (by rw [hg2, hs2.len]) ha2 hg3 fun j h0 h1 => by rw [hg1]; exact hs2.now j (by omega) (by omega))
    refine sw_call hload ?_
    rintro _ _ ⟨gv, hgv, rfl, rfl⟩
    have hgv1 := hgv.one
    have hsame := r3SamePairs_ok 7111 7110 (SPO L gv) (SPO L v1) gv v1 L L hgv.rds hT.rds hrb hrb (by have := hro.2; omega)
    repeat' (first | with_reducible (first | refine go1 ?_ | refine sct ?_ | refine scf ?_ | refine sgr ?_) | ((with_reducible refine sw_call hsame ?_); rintro _ _ ⟨⟨y, hy, rfl⟩, rfl⟩) | (with_reducible refine sc_cond (fun h => ?_) (fun h => ?_)) <;> (try (exfalso; first | contradiction | omega | exact h Iff.rfl)) | (with_reducible refine sw_guard_split (fun h => ?_) (fun h => ?_)) <;> (try (exfalso; first | contradiction | omega | exact h Iff.rfl)) | (with_reducible refine sw_pick (fun h => ?_) (fun h => ?_)) <;> (try (exfalso; first | contradiction | omega | exact h Iff.rfl)) | fail)
    have hyt : y = true := hy.2 rfl
    subst hyt
    refine sq_ret1 Try.results6 ?_
    refine ⟨_, ⟨rfl, rfl⟩, ?_⟩
    repeat' (first | with_reducible exact Ent.refl _ | with_reducible refine Ent.take_eq ?_ ?_ | rfl | with_reducible refine Ent.oR ?_ | with_reducible refine Ent.trans (oR.drop _ _ _) ?_ | with_reducible refine Ent.trans (Ent.drop _ _) ?_)
end Go.Gsl
