/- A checkpoint in one area leaves the other one as it is. -/
import Derived.Test.YtlofcljlmfnhbaaCkx4Q
import Derived.Test.YtlofcljlmfnhbaaGD
import Derived.Test.YtlofcljlmfnhbaaGE
namespace Go.Gsl
set_option linter.unusedVariables false
open Go.Proofs

theorem r3SamePairs_same (k1 k2 : Nat) (r1 r2 : HProp) (v1 v2 : Value) (l : List Sp) (h1 : RdS r1 v1 l) (h2 : RdS r2 v2 l) (hb : SpsB l) (hl : l.length ≤ 4611686018427387904) : Spec Try.prog 19 [v1, v2] [k1, k2] [r1, r2]
    fun F w Rs' => w = .bool true ∧ Rs' = (k1, r1) :: (k2, r2) :: F := (r3SamePairs_ok k1 k2 r1 r2 v1 v2 l l h1 h2 hb hb hl).mono fun F w Rs' h => by
  obtain ⟨⟨y, hy, rfl⟩, h⟩ := h
  rw [hy.2 rfl]
  exact ⟨rfl, h⟩
set_option maxHeartbeats 4000000 in
theorem l19Other_ok (k : Nat) (r : HProp) (v v2 kv : Value) (l m : List Sp) (u : Int) (keep : List Bool) (hv : RdS r v l) (hb : SpsB l) (hl : l.length ≤ 9223372036854775807) (hv2 : RdS r v2 m) (hb2 : SpsB m) (hl2 : m.length ≤ 9223372036854775807) (hu : 0 ≤ u ∧ u ≤ 255) (hkv : RdBools r kv keep) (hkl : keep.length ≤ 140737488355328) :
    Spec Try.prog 5 [v, v2, .agg [.int .u8 u, kv].toArray] [k] [r] fun F w Rs' => w = .bool true ∧ Rs' = (k, r) :: F := by
  refine spec_of Try.func5 rfl Try.ntmps5 rfl ?_
  intro w0 F
  have hI2 : I64 2 := by unfold I64; omega
  have hI0 : I64 0 := by unfold I64; omega
  have hI24 : I64 24 := by unfold I64; omega
  have hv1 := hv.one
  have hv21 := hv2.one
  have hk1 : One kv := by obtain ⟨a, c, rfl, _⟩ := hkv; exact ⟨rfl⟩
  repeat' (first | with_reducible (first | refine go1 ?_ | refine sct ?_ | refine scf ?_ | refine sgr ?_) | fail)
  refine sw_box fun b5 => ?_
  repeat' (first | with_reducible (first | refine go1 ?_ | refine sct ?_ | refine scf ?_ | refine sgr ?_) | fail)
  refine sc_lin ([(b5, pts b5 (.cells [.int .u8 u, kv].toArray 63 (0, 0)))]) (llp 0 (llp 1 (llp 2 (llp 3 (llp 4 (llp 5 ll0)))))) (by kernel_rfl) rfl (by kernel_rfl) ?_
  all_goals (iterate 6 refine go1l ?_)
  all_goals refine sl_done ?_
  repeat' (first | with_reducible (first | refine go1 ?_ | refine sct ?_ | refine scf ?_ | refine sgr ?_) | ((with_reducible refine sw_call dNew_60 ?_); rintro _ _ ⟨p, rfl, rfl⟩) | ((with_reducible refine sw_call l19live_ok ?_); rintro _ _ ⟨rfl, rfl⟩) | (with_reducible refine sc_cond (fun h => ?_) (fun h => ?_)) <;> (try (exfalso; first | contradiction | omega | exact h Iff.rfl)) | (with_reducible refine sw_guard_split (fun h => ?_) (fun h => ?_)) <;> (try (exfalso; first | contradiction | omega | exact h Iff.rfl)) | (with_reducible refine sw_pick (fun h => ?_) (fun h => ?_)) <;> (try (exfalso; first | contradiction | omega | exact h Iff.rfl)) | fail)
  refine DISK.scwf' (p := p) (s := Dk.new 60) fun hwf => ?_
  refine sw_call (l19rising_own 7110 k r v l 32 hv hb hl (by omega)) ?_
  rintro v1 _ ⟨hT, rfl⟩
  have hro := riseL_ok 32 l
  have hrb : SpsB (riseL 32 l) := fun x hx => hb x (riseL_mem hx)
  generalize riseL 32 l = L at *
  have hv3 := hT.one
  repeat' (first | with_reducible (first | refine go1 ?_ | refine sct ?_ | refine scf ?_ | refine sgr ?_) | fail)
  refine sw_call (l19rising_own 7111 k r v2 m 32 hv2 hb2 hl2 (by omega)) ?_
  rintro v4 _ ⟨hT2, rfl⟩
  have hro2 := riseL_ok 32 m
  have hrb2 : SpsB (riseL 32 m) := fun x hx => hb2 x (riseL_mem hx)
  generalize riseL 32 m = M at *
  have hv5 := hT2.one
  repeat' (first | with_reducible (first | refine go1 ?_ | refine sct ?_ | refine scf ?_ | refine sgr ?_) | fail)
  refine sw_build [.int .i64 0, .int .i64 2] (by kernel_rfl) ?_
  refine sw_build [.int .i64 24, .int .i64 2] (by kernel_rfl) ?_
  refine sw_alloc fun b11 => ?_
  refine sw_alloc fun b12 => ?_
  refine sw_store_agg ?_
  refine sw_store_agg ?_
  repeat' (first | with_reducible (first | refine go1 ?_ | refine sct ?_ | refine scf ?_ | refine sgr ?_) | fail)
  have h60 : (Dk.new 60).sure.length = 60 := List.length_replicate
  have ha : areaE 0 2 (60 : Nat) = 0 := areaE_60 (by omega) (by omega) (by omega)
  have hab : areaE 24 2 (60 : Nat) = 0 := areaE_60 (by omega) (by omega) (by omega)
  have hnk : ∀ l : List Sp, l.length ≤ 32 → (nCk l : Int) ≤ 2 := fun l h => by unfold nCk; omega
  refine sw_call (ckNew_wr p (Dk.new 60) hwf 0 2 hI0 hI2 (by rw [h60]; exact ha)) ?_
  rintro _ _ ⟨q, rfl, rfl⟩
  repeat' (first | with_reducible (first | refine go1 ?_ | refine sct ?_ | refine scf ?_ | refine sgr ?_) | fail)
  refine sw_call (ckNew_wr p (Dk.new 60) hwf 24 2 hI24 hI2 (by rw [h60]; exact hab)) ?_
  rintro _ _ ⟨q2, rfl, rfl⟩
  have hput := ckPut_up q p 7110 (Dk.new 60) (SPO L v1) 0 2 [] L v1 60 (Dk.new 60).now hI0 hI2 hT.rds (by rw [List.nil_append]; exact hro.1) (by rw [List.nil_append]; exact hrb) (by rw [List.nil_append]; exact hnk _ hro.2) ha (WSt.new 0 2)
  rw [List.nil_append] at hput
  repeat' (first | with_reducible (first | refine go1 ?_ | refine sct ?_ | refine scf ?_ | refine sgr ?_) | ((with_reducible refine sw_call hput ?_); rintro _ _ ⟨s1, hs1, rfl, rfl⟩) | (with_reducible refine sc_cond (fun h => ?_) (fun h => ?_)) <;> (try (exfalso; first | contradiction | omega | exact h Iff.rfl)) | (with_reducible refine sw_guard_split (fun h => ?_) (fun h => ?_)) <;> (try (exfalso; first | contradiction | omega | exact h Iff.rfl)) | (with_reducible refine sw_pick (fun h => ?_) (fun h => ?_)) <;> (try (exfalso; first | contradiction | omega | exact h Iff.rfl)) | fail)
  have hdone := ckDone_up q p s1 0 2 L 60 (Dk.new 60).now hI0 hI2 hro.1 hrb (hnk _ hro.2) ha hs1
  refine sw_call hdone ?_
  rintro _ _ ⟨s2, hs2, rfl, rfl⟩
  repeat' (first | with_reducible (first | refine go1 ?_ | refine sct ?_ | refine scf ?_ | refine sgr ?_) | (with_reducible refine sc_cond (fun h => ?_) (fun h => ?_)) <;> (try (exfalso; first | contradiction | omega | exact h Iff.rfl)) | (with_reducible refine sw_guard_split (fun h => ?_) (fun h => ?_)) <;> (try (exfalso; first | contradiction | omega | exact h Iff.rfl)) | (with_reducible refine sw_pick (fun h => ?_) (fun h => ?_)) <;> (try (exfalso; first | contradiction | omega | exact h Iff.rfl)) | fail)
  refine sw_op (h := runop_rem_nn (by omega)) ?_
  repeat' (first | with_reducible refine sw_conv_i64 (by omega) ?_ | with_reducible refine sw_in (by omega) ?_ | with_reducible (first | refine go1 ?_ | refine sct ?_ | refine scf ?_ | refine sgr ?_) | fail)
  have hfu : 0 ≤ u % 30 ∧ u % 30 < 30 := ⟨Int.emod_nonneg _ (by decide), Int.emod_lt_of_pos _ (by decide)⟩
  refine sw_call (dSetFuse_ok p k s2 r kv keep (u % 30) hfu.1 (by omega) hkv hkl) ?_
  rintro _ _ ⟨rfl, rfl⟩
  have hd0 : ∀ j, s2.dirty j = none := fun j => by rw [hs2.dirty]
  have hK0 : KSt s2 (s2.fused (u % 30) keep) := ⟨hs2.len, fun j hj => (by rw [show (s2.fused (u % 30) keep).dirty j = s2.dirty j from rfl, hd0 j] at hj; cases hj), fun j _ => ⟨hd0 _, rfl⟩⟩
  have hF60 : (s2.fused (u % 30) keep).sure.length = 60 := hs2.len
  generalize s2.fused (u % 30) keep = s3 at *
  have hmin : ∀ x ∈ M, x.In := fun x hx => (hro2.1.1 x hx).in (hrb2 x hx)
  have hput2 := ckPut_ok q2 p 7111 s3 (SPO M v4) 24 2 (wRest []) M (wN []) v4 hI24 hI2 hT2.rds (by rw [show wRest [] = [] from rfl, List.nil_append]; exact hmin) (by rw [show wN ([] : List Sp) = 0 from rfl]; omega) (by rw [show wRest [] = [] from rfl, List.nil_append]; have := hro2.2; omega)
  repeat' (first | with_reducible (first | refine go1 ?_ | refine sct ?_ | refine scf ?_ | refine sgr ?_) | fail)
  refine sw_call hput2 ?_
  rintro _ _ ⟨L4, n4, s4, e4, hP, rfl, rfl⟩
  rw [show wRest [] = [] from rfl, List.nil_append] at hP
  have hK4 := PutR_keep (by omega) hP hK0
  have hPa := PutR_any (l := M) (g := s3.now) hro2.1 (hnk _ hro2.2) hP 0 (Nat.zero_le _) rfl (by simp) (by rw [hF60]; exact hab) rfl
  have hL4 : (∀ x ∈ L4, x.In) ∧ L4.length ≤ 32 ∧ 0 ≤ n4 ∧ n4 ≤ 4096 := by
    have hwM : wN M ≤ 1 := by unfold wN; have := hro2.2; omega
    rcases hPa with ⟨_, h1, h2, _⟩ | ⟨_, m', h0, h1, h2, _⟩
    · rw [h1, h2]
      have := wRest_len M
      exact ⟨fun x hx => hmin x (by unfold wRest at hx; exact List.mem_of_mem_drop hx), by omega, by omega, by omega⟩
    · rw [h1, h2]
      exact ⟨fun x hx => hmin x (List.mem_of_mem_drop hx), by rw [List.length_drop]; have := hro2.2; omega, by omega, by omega⟩
  repeat' (first | with_reducible (first | refine go1 ?_ | refine sct ?_ | refine scf ?_ | refine sgr ?_) | fail)
  refine sw_call (ckDone_ok q2 p s4 24 2 L4 n4 hI24 hI2 hL4.1 ⟨hL4.2.2.1, hL4.2.2.2⟩ (by omega)) ?_
  rintro _ _ ⟨L5, n5, d5, s5, a5, e5, hD, rfl, rfl⟩
  have hK5 := (DoneR_keep (by omega) hD hK4).up
  have h460 := hK4.len
  have hlen5 := hK5.len
  have hRes : (e5 = 0 ∧ a5 = nCk M ∧ ∀ j : Int, 24 ≤ j → j < 48 → s5.up.now j = img 24 M (nCk M) s3.now j) ∨ (e5 ≠ 0 ∧ (e5 = 6 ∨ (e5 = 32 ∧ 16 < M.length))) := by
    rcases hPa with ⟨_, h1, h2, h3, h4⟩ | ⟨_, m', h0, h1, h2, h3⟩
    · subst h1 h2
      rcases DoneR_any hro2.1 (hnk _ hro2.2) hD (by rw [h460]; exact hab) h4 with ⟨h5, h6, h7, h8⟩ | h5
      · exact .inl ⟨h5, h6, fun j g1 g2 => h8 j (by omega) (by omega)⟩
      · exact .inr ⟨by omega, .inl h5⟩
    · have h5 := DoneR_bad hD (by rw [h460]; exact hab) h3
      refine .inr ⟨by omega, .inr ⟨h5, ?_⟩⟩
      rw [h1, List.length_drop] at h3
      omega
  repeat' (first | with_reducible (first | refine go1 ?_ | refine sct ?_ | refine scf ?_ | refine sgr ?_) | fail)
  refine sw_call (dRestart_up p s5) ?_
  rintro _ _ ⟨rfl, rfl⟩
  have hdn : s5.up.down = false := rfl
  generalize s5.up = s6 at *
  repeat' (first | with_reducible (first | refine go1 ?_ | refine sct ?_ | refine scf ?_ | refine sgr ?_) | fail)
  have hload := ckLoad_own 7112 p s6 0 2 L (nCk L : Int) hI0 hI2 rfl (by unfold I64; have := hnk _ hro.2; omega) (loadA_of (N := 60) (g := (Dk.new 60).now) hro.1 hrb (hnk _ hro.2) hlen5 ha hdn fun j h0 h1 => by
    rw [hK5.now (by omega) (by omega), ← hs2.now j (by omega) (by omega), Dk.now_sure (by rw [hs2.dirty])])
  refine sw_call hload ?_
  rintro _ _ ⟨gv, hgv, rfl, rfl⟩
  have hgv1 := hgv.one
  have hsame := r3SamePairs_same 7112 7110 (SPO L gv) (SPO L v1) gv v1 L hgv.rds hT.rds hrb (by have := hro.2; omega)
  have hMr := hT2.rds
  repeat' (first | with_reducible (first | refine go1 ?_ | refine sct ?_ | refine scf ?_ | refine sgr ?_) | with_reducible refine sw_guard_skip_u ?_ | ((with_reducible refine sw_call hsame ?_); rintro _ _ ⟨rfl, rfl⟩) | with_reducible refine sw_op (h := runop_lenT hMr) ?_ | (with_reducible refine sc_cond (fun h => ?_) (fun h => ?_)) <;> (try (exfalso; first | contradiction | omega | exact h Iff.rfl)) | (with_reducible refine sw_guard_split (fun h => ?_) (fun h => ?_)) <;> (try (exfalso; first | contradiction | omega | exact h Iff.rfl)) | (with_reducible refine sw_pick (fun h => ?_) (fun h => ?_)) <;> (try (exfalso; first | contradiction | omega | exact h Iff.rfl)) | fail)
  · refine sq_ret1 Try.results5 ?_
    refine ⟨_, ⟨rfl, rfl⟩, ?_⟩
    repeat' (first | with_reducible exact Ent.refl _ | with_reducible refine Ent.take_eq ?_ ?_ | rfl | with_reducible refine Ent.oR ?_ | with_reducible refine Ent.trans (oR.drop _ _ _) ?_ | with_reducible refine Ent.trans (Ent.drop _ _) ?_)
  · have hM16 : 16 < (M.length : Int) := by
      rcases hRes with ⟨h9, _⟩ | ⟨_, h9 | ⟨_, h9⟩⟩
      · omega
      · omega
      · omega
    refine sq_ret1 Try.results5 ?_
    refine ⟨_, ⟨by rw [decide_eq_true hM16], rfl⟩, ?_⟩
    repeat' (first | with_reducible exact Ent.refl _ | with_reducible refine Ent.take_eq ?_ ?_ | rfl | with_reducible refine Ent.oR ?_ | with_reducible refine Ent.trans (oR.drop _ _ _) ?_ | with_reducible refine Ent.trans (Ent.drop _ _) ?_)
  · have he0 : e5 = 0 := by omega
    obtain ⟨ha5, hnow⟩ : a5 = nCk M ∧ ∀ j : Int, 24 ≤ j → j < 48 → s6.now j = img 24 M (nCk M) s3.now j := by
      rcases hRes with ⟨_, h9⟩ | ⟨h9, _⟩
      · exact h9
      · exact absurd he0 h9
    subst ha5
    have hload2 := ckLoad_own 7113 p s6 24 2 M (nCk M : Int) hI24 hI2 rfl (by unfold I64; have := hnk _ hro2.2; omega) (loadA_of (N := 60) (g := s3.now) hro2.1 hrb2 (hnk _ hro2.2) hlen5 hab hdn fun j h0 h1 => hnow j (by omega) (by omega))
    refine sw_call hload2 ?_
    rintro _ _ ⟨gw, hgw, rfl, rfl⟩
    have hgw1 := hgw.one
    have hsame2 := r3SamePairs_same 7113 7111 (SPO M gw) (SPO M v4) gw v4 M hgw.rds hT2.rds hrb2 (by have := hro2.2; omega)
    repeat' (first | with_reducible (first | refine go1 ?_ | refine sct ?_ | refine scf ?_ | refine sgr ?_) | with_reducible refine sw_guard_skip_u ?_ | ((with_reducible refine sw_call hsame2 ?_); rintro _ _ ⟨rfl, rfl⟩) | (with_reducible refine sc_cond (fun h => ?_) (fun h => ?_)) <;> (try (exfalso; first | contradiction | omega | exact h Iff.rfl)) | (with_reducible refine sw_guard_split (fun h => ?_) (fun h => ?_)) <;> (try (exfalso; first | contradiction | omega | exact h Iff.rfl)) | (with_reducible refine sw_pick (fun h => ?_) (fun h => ?_)) <;> (try (exfalso; first | contradiction | omega | exact h Iff.rfl)) | fail)
    refine sq_ret1 Try.results5 ?_
    refine ⟨_, ⟨rfl, rfl⟩, ?_⟩
    repeat' (first | with_reducible exact Ent.refl _ | with_reducible refine Ent.take_eq ?_ ?_ | rfl | with_reducible refine Ent.oR ?_ | with_reducible refine Ent.trans (oR.drop _ _ _) ?_ | with_reducible refine Ent.trans (Ent.drop _ _) ?_)
end Go.Gsl
