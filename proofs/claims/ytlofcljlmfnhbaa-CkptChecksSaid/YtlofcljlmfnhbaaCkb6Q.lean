/- Pairs cut into chunks, gone through. -/
import Derived.Test.YtlofcljlmfnhbaaCkb5Q
import Derived.Test.YtlofcljlmfnhbaaGE
namespace Go.Gsl
set_option linter.unusedVariables false
open Go.Proofs

/-- slices.Clone, held as it is from there on -/
theorem clS_fr (kk k : Nat) (r : HProp) (v : Value) (l : List Sp) (hv : RdS r v l) (hl : l.length ≤ 3518437208883) : Spec Try.prog 18 [v] [k] [r]
    fun F w Rs' => (∃ a c, w = .slice a l.length c) ∧ Rs' = (kk, BagS [(w, l)]) :: (k, r) :: F := by
  intro w0 F w hw
  refine Calls.mono (clS_ok k r v l hv hl w0 F w hw) ?_
  rintro x w' ⟨v, Rs', rfl, ⟨q, hq, rfl, rfl⟩, hw'⟩
  refine ⟨_, _, rfl, ⟨?_, rfl⟩, spN_own hq kk hw'⟩
  cases q with
  | none => exact ⟨none, 0, by rw [show nV l.length none = .slice none 0 0 from rfl, (hq.2.1 rfl).2]⟩
  | some y => exact ⟨_, _, rfl⟩
theorem clS_own (kk k : Nat) (r : HProp) (v : Value) (l : List Sp) (hv : RdS r v l) (hl : l.length ≤ 3518437208883) : Spec Try.prog 18 [v] [k] [r]
    fun F w Rs' => RdT (SPO l w) w l ∧ Rs' = (kk, SPO l w) :: (k, r) :: F := by
  intro w0 F w hw
  refine Calls.mono (clS_ok k r v l hv hl w0 F w hw) ?_
  rintro x w' ⟨v, Rs', rfl, ⟨q, hq, rfl, rfl⟩, hw'⟩
  exact ⟨_, _, rfl, ⟨SPO.rd hq, rfl⟩, SPO.own hq kk hw'⟩
abbrev cutX (bx : Nat) (v : Value) : HProp := pts bx (.cells [v].toArray 24 (0, 0))
theorem ckCut_ok (kk k : Nat) (r : HProp) (v : Value) (l : List Sp) (hv : RdS r v l) (hl : l.length ≤ 3518437208883) : Spec Try.prog 23 [v] [k] [r]
    fun F w Rs' => ∃ bx v1, RdT (SPO l v1) v1 l ∧ w = .func (.func 40) #[] #[.pointer (some ⟨bx, 0, none⟩)] ∧ Rs' = (bx, cutX bx v1) :: (kk, SPO l v1) :: (k, r) :: F := by
  refine spec_of Try.func23 rfl Try.ntmps23 rfl ?_
  intro w0 F
  repeat' (first | with_reducible (first | refine go1 ?_ | refine sct ?_ | refine scf ?_ | refine sgr ?_) | fail)
  refine sw_call (clS_own kk k r v l hv hl) ?_
  rintro v1 _ ⟨hT, rfl⟩
  have hT1 := hT.one
  refine sw_alloc fun bx => ?_
  repeat' (first | with_reducible (first | refine go1 ?_ | refine sct ?_ | refine scf ?_ | refine sgr ?_) | fail)
  refine sw_store ?_
  repeat' (first | with_reducible (first | refine go1 ?_ | refine sct ?_ | refine scf ?_ | refine sgr ?_) | fail)
  refine sq_ret1 Try.results23 ?_
  exact ⟨_, ⟨bx, v1, hT, rfl, rfl⟩, Ent.refl _⟩

/-- the chunks, one behind the other -/
def CutNx (l : List Sp) (pre : List (Ck × Value)) (x : Ck × Value) : Prop := pre.length ≤ wN l ∧ x.1 = ckAt l pre.length ∧ ∃ a c, x.2 = .slice a x.1.l.length c
def CutDn (l : List Sp) (xs : List (Ck × Value)) : Prop := xs.length = nCk l
set_option maxHeartbeats 4000000 in
theorem ckCut1_iter (bx kk : Nat) (v1 : Value) (l : List Sp) (hT : RdT (SPO l v1) v1 l) (hl : l.length ≤ 3518437208883) : IterO Try.prog 40 [.pointer (some ⟨bx, 0, none⟩)] [bx, kk] [cutX bx v1, SPO l v1] [cutX bx v1, SPO l v1] (fun x : Ck × Value => .agg (ckV x.1.num x.2 x.1.last).toArray) (fun x => BagS [(x.2, x.1.l)]) (CutNx l) (CutDn l) := by
  intro lp J Jx hY
  have hT1 := hT.one
  refine spec_of Try.func40 rfl Try.ntmps40 rfl ?_
  intro w0 F
  repeat' (first | with_reducible (first | refine go1 ?_ | refine sct ?_ | refine scf ?_ | refine sgr ?_) | fail)
  refine sc_loop (α := { x : List (Ck × Value) × Value // x.1.length ≤ wN l ∧ RdT (SPO l v1) x.2 (l.drop (16 * x.1.length)) }) (fun x => [(0, .func (.yield lp) #[] #[]), (3, x.1.2), (4, .int .i64 (x.1.1.length : Int))])
    (fun x => (bx, cutX bx v1) :: (kk, SPO l v1) :: (lp, J x.1.1) :: F) (fun x => l.length - x.1.1.length) ⟨([], v1), Nat.zero_le _, hT⟩ ?_ ?_ ?_
  · repeat' (first | exact says_nil | refine says_cons rfl ?_ | refine says_cons (by simp) ?_)
  · repeat' (first | with_reducible exact Ent.refl _ | with_reducible refine Ent.take_eq ?_ ?_ | rfl | with_reducible refine Ent.oR ?_ | with_reducible refine Ent.trans (oR.drop _ _ _) ?_ | with_reducible refine Ent.trans (Ent.drop _ _) ?_)
  rintro ⟨⟨pre, rv⟩, hx⟩ e
  have hx' := hx
  obtain ⟨hp, hrv⟩ := hx'
  (try simp only at hp hrv)
  simp only [List.cons_append, List.nil_append]
  have hrv1 := hrv.one
  have hwl : 16 * wN l ≤ l.length := by unfold wN; omega
  have hrds := hrv.rds
  repeat' (first | with_reducible (first | refine go1 ?_ | refine sct ?_ | refine scf ?_ | refine sgr ?_) | with_reducible refine sw_op (h := runop_lenT hrds) ?_ | (with_reducible refine sc_cond (fun h => ?_) (fun h => ?_)) <;> (try (exfalso; first | contradiction | omega | exact h Iff.rfl)) | fail)
  · have h16 : 16 < (l.drop (16 * pre.length)).length := by omega
    obtain ⟨t1, t2, t3⟩ := put_turn h16
    refine sw_op (h := runop_takeT 16 hrv ⟨rfl, by omega⟩) ?_
    have htk := hrv.take (k := 16) (by omega)
    refine sw_call (clS_fr 7006 kk (SPO l v1) _ _ htk.rds (by rw [List.length_take]; omega)) ?_
    rintro _ _ ⟨⟨a, c, rfl⟩, rfl⟩
    have hnx : CutNx l pre (ckAt l pre.length, .slice a ((l.drop (16 * pre.length)).take 16).length c) := ⟨by omega, rfl, a, c, by rw [t2]⟩
    have hyl := hY pre _ hnx
    rw [t2] at hyl
    simp only at hyl
    refine sw_build (ckV (pre.length : Int) (.slice a ((l.drop (16 * pre.length)).take 16).length c) false) (by kernel_rfl) ?_
    repeat' (first | with_reducible (first | refine go1 ?_ | refine sct ?_ | refine scf ?_ | refine sgr ?_) | ((with_reducible refine sw_yield rfl hyl ?_); rintro _ _ (⟨rfl, rfl⟩ | ⟨rfl, rfl⟩)) | (with_reducible refine sc_cond (fun h => ?_) (fun h => ?_)) <;> (try (exfalso; first | contradiction | omega | exact h Iff.rfl)) | fail)
    · refine sw_op (h := runop_dropT 16 hrv ⟨rfl, by omega⟩) ?_
      repeat' (first | with_reducible refine sw_in (by omega) ?_ | with_reducible (first | refine go1 ?_ | refine sct ?_ | refine scf ?_ | refine sgr ?_) | fail)
      refine sq_round ⟨(pre ++ [(⟨pre.length, false, (l.drop (16 * pre.length)).take 16⟩, .slice a ((l.drop (16 * pre.length)).take 16).length c)], dropT rv 16), ?_, ?_⟩ ?_ ?_ ?_
      · simp only [List.length_append, List.length_singleton]
        omega
      · simp only [List.length_append, List.length_singleton]
        rw [← t3]
        exact hrv.drop (by omega)
      · show l.length - (pre ++ [_]).length < l.length - pre.length
        rw [List.length_append, List.length_singleton]
        omega
      · simp only [List.length_append, List.length_singleton]
        repeat' (first | exact says_nil | refine says_cons rfl ?_ | refine says_cons (by simp) ?_)
      · repeat' (first | with_reducible exact Ent.refl _ | with_reducible refine Ent.take_eq ?_ ?_ | rfl | with_reducible refine Ent.oR ?_ | with_reducible refine Ent.trans (oR.drop _ _ _) ?_ | with_reducible refine Ent.trans (Ent.drop _ _) ?_)
    · refine sq_ret0 Try.results40 ?_
      refine ⟨_, ⟨rfl, .inr ⟨pre, _, hnx, rfl⟩⟩, ?_⟩
      rw [t2]
      show Ent _ ((lp, Jx (pre ++ [_])) :: (bx, cutX bx v1) :: (kk, SPO l v1) :: F)
      repeat' (first | with_reducible exact Ent.refl _ | with_reducible refine Ent.take_eq ?_ ?_ | rfl | with_reducible refine Ent.oR ?_ | with_reducible refine Ent.trans (oR.drop _ _ _) ?_ | with_reducible refine Ent.trans (Ent.drop _ _) ?_)
  · obtain ⟨u1, u2⟩ := put_end hp (by omega)
    obtain ⟨w1, w2⟩ := done_ck l
    rw [u2] at hrv hrds
    refine sw_call (clS_fr 7006 kk (SPO l v1) rv _ hrds (by have := wRest_len l; omega)) ?_
    rintro _ _ ⟨⟨a, c, rfl⟩, rfl⟩
    have hnx : CutNx l pre (ckAt l pre.length, .slice a (wRest l).length c) := ⟨hp, rfl, a, c, by rw [u1, w1]⟩
    have hyl := hY pre _ hnx
    rw [u1, w1] at hyl
    simp only at hyl
    rw [u1]
    refine sw_build (ckV (wN l : Int) (.slice a (wRest l).length c) true) (by kernel_rfl) ?_
    refine sw_yield rfl hyl ?_
    rintro _ _ (⟨rfl, rfl⟩ | ⟨rfl, rfl⟩)
    · repeat' (first | with_reducible (first | refine go1 ?_ | refine sct ?_ | refine scf ?_ | refine sgr ?_) | fail)
      refine sq_end0 Try.results40 ?_
      refine ⟨_, ⟨rfl, .inl ⟨pre ++ [(⟨wN l, true, wRest l⟩, .slice a (wRest l).length c)], ?_, rfl⟩⟩, ?_⟩
      · unfold CutDn
        rw [List.length_append, List.length_singleton, w2, u1]
      · show Ent _ ((lp, J (pre ++ [_])) :: (bx, cutX bx v1) :: (kk, SPO l v1) :: F)
        repeat' (first | with_reducible exact Ent.refl _ | with_reducible refine Ent.take_eq ?_ ?_ | rfl | with_reducible refine Ent.oR ?_ | with_reducible refine Ent.trans (oR.drop _ _ _) ?_ | with_reducible refine Ent.trans (Ent.drop _ _) ?_)
    · repeat' (first | with_reducible (first | refine go1 ?_ | refine sct ?_ | refine scf ?_ | refine sgr ?_) | fail)
      refine sq_end0 Try.results40 ?_
      refine ⟨_, ⟨rfl, .inr ⟨pre, _, hnx, rfl⟩⟩, ?_⟩
      rw [u1, w1]
      show Ent _ ((lp, Jx (pre ++ [_])) :: (bx, cutX bx v1) :: (kk, SPO l v1) :: F)
      repeat' (first | with_reducible exact Ent.refl _ | with_reducible refine Ent.take_eq ?_ ?_ | rfl | with_reducible refine Ent.oR ?_ | with_reducible refine Ent.trans (oR.drop _ _ _) ?_ | with_reducible refine Ent.trans (Ent.drop _ _) ?_)

set_option maxHeartbeats 4000000 in
theorem l19Checks_ok (k : Nat) (r : HProp) (v : Value) (l : List Sp) (f c n : Int) (hv : RdS r v l) (hb : SpsB l) (hl : l.length ≤ 3518437208883) (hf : I64 f) (hc : I64 c) (hn : I64 n) :
    Spec Try.prog 4 [.agg [.int .i64 f, .int .i64 c].toArray, .int .i64 n, v] [k] [r] fun F w Rs' => w = .bool true ∧ Rs' = (k, r) :: F := by
  refine spec_of Try.func4 rfl Try.ntmps4 rfl ?_
  intro w0 F
  have hv1 := hv.one
  repeat' (first | with_reducible (first | refine go1 ?_ | refine sct ?_ | refine scf ?_ | refine sgr ?_) | fail)
  refine sw_box fun b3 => ?_
  refine sw_alloc fun b6 => ?_
  repeat' (first | with_reducible (first | refine go1 ?_ | refine sct ?_ | refine scf ?_ | refine sgr ?_) | fail)
  refine sc_lin ([(b3, pts b3 (.cells [.int .i64 f, .int .i64 c].toArray 23 (0, 0)))]) (lle 0 (llp 1 (llp 2 (llp 3 (llp 4 (llp 6 (llp 7 (lle 5 (lle 8 (llp 9 (llp 10 ll0))))))))))) (by kernel_rfl) rfl (by kernel_rfl) ?_
  all_goals refine sl_eff ?_
  all_goals (repeat' (first | with_reducible (first | refine go1 ?_ | refine sct ?_ | refine scf ?_ | refine sgr ?_) | ((with_reducible refine sw_callf l19live_ok ?_); rintro _ _ ⟨rfl, rfl⟩) | ((with_reducible refine sw_callf (ckCheck_ok f c n hf hc hn) ?_); rintro _ _ ⟨rfl, rfl⟩) | ((with_reducible refine sw_callf (r19Check_ok f c n hf hc hn) ?_); rintro _ _ ⟨rfl, rfl⟩) | with_reducible refine sl_back ?_ | (with_reducible refine sc_cond (fun h => ?_) (fun h => ?_)) <;> (try (exfalso; first | contradiction | omega | exact h Iff.rfl)) | (with_reducible refine sw_guard_split (fun h => ?_) (fun h => ?_)) <;> (try (exfalso; first | contradiction | omega | exact h Iff.rfl)) | (with_reducible refine sw_pick (fun h => ?_) (fun h => ?_)) <;> (try (exfalso; first | contradiction | omega | exact h Iff.rfl)) | fail))
  all_goals (iterate 2 refine go1l ?_)
  all_goals (first | refine go1l ?_ | ((refine sl_split 12 (fun h => ?_) (fun h => ?_)) <;> (try (exfalso; first | contradiction | omega | exact h Iff.rfl)) <;> refine go1l ?_))
  all_goals (first | refine go1l ?_ | ((refine sl_split 12 (fun h => ?_) (fun h => ?_)) <;> (try (exfalso; first | contradiction | omega | exact h Iff.rfl)) <;> refine go1l ?_))
  all_goals (first | refine go1l ?_ | ((refine sl_split 12 (fun h => ?_) (fun h => ?_)) <;> (try (exfalso; first | contradiction | omega | exact h Iff.rfl)) <;> refine go1l ?_))
  all_goals (first | refine go1l ?_ | ((refine sl_split 12 (fun h => ?_) (fun h => ?_)) <;> (try (exfalso; first | contradiction | omega | exact h Iff.rfl)) <;> refine go1l ?_))
  all_goals refine sl_eff ?_
  all_goals (repeat' (first | with_reducible (first | refine go1 ?_ | refine sct ?_ | refine scf ?_ | refine sgr ?_) | ((with_reducible refine sw_callf l19live_ok ?_); rintro _ _ ⟨rfl, rfl⟩) | ((with_reducible refine sw_callf (ckCheck_ok f c n hf hc hn) ?_); rintro _ _ ⟨rfl, rfl⟩) | ((with_reducible refine sw_callf (r19Check_ok f c n hf hc hn) ?_); rintro _ _ ⟨rfl, rfl⟩) | with_reducible refine sl_back ?_ | (with_reducible refine sc_cond (fun h => ?_) (fun h => ?_)) <;> (try (exfalso; first | contradiction | omega | exact h Iff.rfl)) | (with_reducible refine sw_guard_split (fun h => ?_) (fun h => ?_)) <;> (try (exfalso; first | contradiction | omega | exact h Iff.rfl)) | (with_reducible refine sw_pick (fun h => ?_) (fun h => ?_)) <;> (try (exfalso; first | contradiction | omega | exact h Iff.rfl)) | fail))
  all_goals refine sl_eff ?_
  all_goals (repeat' (first | with_reducible (first | refine go1 ?_ | refine sct ?_ | refine scf ?_ | refine sgr ?_) | ((with_reducible refine sw_callf l19live_ok ?_); rintro _ _ ⟨rfl, rfl⟩) | ((with_reducible refine sw_callf (ckCheck_ok f c n hf hc hn) ?_); rintro _ _ ⟨rfl, rfl⟩) | ((with_reducible refine sw_callf (r19Check_ok f c n hf hc hn) ?_); rintro _ _ ⟨rfl, rfl⟩) | with_reducible refine sl_back ?_ | (with_reducible refine sc_cond (fun h => ?_) (fun h => ?_)) <;> (try (exfalso; first | contradiction | omega | exact h Iff.rfl)) | (with_reducible refine sw_guard_split (fun h => ?_) (fun h => ?_)) <;> (try (exfalso; first | contradiction | omega | exact h Iff.rfl)) | (with_reducible refine sw_pick (fun h => ?_) (fun h => ?_)) <;> (try (exfalso; first | contradiction | omega | exact h Iff.rfl)) | fail))
  all_goals (first | refine go1l ?_ | ((refine sl_split 12 (fun h => ?_) (fun h => ?_)) <;> (try (exfalso; first | contradiction | omega | exact h Iff.rfl)) <;> refine go1l ?_))
  all_goals (first | refine go1l ?_ | ((refine sl_split 12 (fun h => ?_) (fun h => ?_)) <;> (try (exfalso; first | contradiction | omega | exact h Iff.rfl)) <;> refine go1l ?_))
  all_goals refine sl_done ?_
  all_goals (repeat' (first | with_reducible (first | refine go1 ?_ | refine sct ?_ | refine scf ?_ | refine sgr ?_) | (with_reducible refine sc_cond (fun h => ?_) (fun h => ?_)) <;> (try (exfalso; first | contradiction | omega | exact h Iff.rfl)) | fail))
  refine sw_call (r19Cut_ok k r v l hv hl) ?_
  rintro _ _ ⟨ms, q, hms, hrd, hq, rfl, rfl⟩
  have hmn : ms.length = nCk l := by
    have := congrArg List.length hms
    simpa using this
  have hnc : nCk l = wN l + 1 := rfl
  have hwl : 16 * wN l ≤ l.length := by unfold wN; omega
  obtain ⟨⟨bq, cq, tq⟩, rfl⟩ : ∃ y, q = some y := by
    cases q with
    | none => have := (hq.2.1 rfl).2; omega
    | some y => exact ⟨y, rfl⟩
  rw [nG_some, show nV ms.length (some (bq, cq, tq)) = .slice (some ⟨bq, 0, none⟩) ms.length cq from rfl]
  refine sw_alloc fun b7 => ?_
  refine sw_store ?_
  repeat' (first | with_reducible (first | refine go1 ?_ | refine sct ?_ | refine scf ?_ | refine sgr ?_) | fail)
  refine sw_alloc fun b8 => ?_
  refine sw_store ?_
  repeat' (first | with_reducible (first | refine go1 ?_ | refine sct ?_ | refine scf ?_ | refine sgr ?_) | fail)
  refine sw_call (ckCut_ok 7110 k r v l hv hl) ?_
  rintro _ _ ⟨bx, v1, hT, rfl, rfl⟩
  repeat' (first | with_reducible (first | refine go1 ?_ | refine sct ?_ | refine scf ?_ | refine sgr ?_) | fail)
  have hrq : Reads (pts bq (.cells (ckAll ms ++ tq).toArray 28 (0, 0))) (some ⟨bq, 0, none⟩) (ckAll ms) := reads_own
  refine sc_rangeFuncO (ckCut1_iter bx 7110 v1 l hT hl) rfl (fun pre => (b8, pts b8 (.cells [Value.int .i64 (pre.length : Int)].toArray 3 (0, 0))) :: (b7, pts b7 (.cells [Value.slice (some ⟨bq, 0, none⟩) ms.length cq].toArray 54 (0, 0))) :: (bq, pts bq (.cells (ckAll ms ++ tq).toArray 28 (0, 0))) :: (b6, pts b6 (.cells [Value.bool false].toArray 4 (0, 0))) :: (k, r) :: F) (fun _ _ => falseR) ?_ ?_ ?_ ?_
  · repeat' (first | with_reducible exact Ent.refl _ | with_reducible refine Ent.take_eq ?_ ?_ | rfl | with_reducible refine Ent.oR ?_ | with_reducible refine Ent.trans (oR.drop _ _ _) ?_ | with_reducible refine Ent.trans (Ent.drop _ _) ?_)
  · rintro w1 lp rc F' pre ⟨ck, v9⟩ ⟨hp, hck, a9, c9, hv9⟩
    simp only at hck hv9
    subst hv9
    have hi2 : pre.length < ms.length := by omega
    have hel := ckAll_elem hi2
    have hm1 : ms[pre.length].1 = ck := by
      have h1 : (ms.map Prod.fst)[pre.length]? = some (ckAt l pre.length) := by
        rw [hms, List.getElem?_map, List.getElem?_range (by omega)]
        rfl
      rw [List.getElem?_map, List.getElem?_eq_getElem hi2] at h1
      rw [hck]
      exact Option.some.inj h1
    have hm2 := hrd _ (List.getElem_mem hi2)
    rw [hm1] at hel hm2
    generalize ms[pre.length].2 = v8 at hel hm2
    have hcb : SpsB ck.l := fun x hx => hb x (by
      rw [hck] at hx
      exact List.mem_of_mem_drop (List.mem_of_mem_take hx))
    have hcl : ck.l.length ≤ 16 := by
      rw [hck]
      show ((l.drop _).take 16).length ≤ 16
      rw [List.length_take]
      omega
    refine sc_opn (k := 7006) (r := BagS [(.slice a9 ck.l.length c9, ck.l)]) (α := Unit) (fun _ => RdS (BagS [(.slice a9 ck.l.length c9, ck.l)]) (.slice a9 ck.l.length c9) ck.l) (fun _ => BagS [(.slice a9 ck.l.length c9, ck.l)]) (fun x hx => ⟨(), hx.rd _ (List.mem_singleton.2 rfl), hx⟩) fun _ hrd9 => ?_
    have hv81 := hm2.one
    have hsame := r3SameChunk_same 7006 k (BagS [(.slice a9 ck.l.length c9, ck.l)]) r (.slice a9 ck.l.length c9) v8 ck hrd9 hm2 hcb (by omega)
    repeat' (first | with_reducible (first | refine go1 ?_ | refine sct ?_ | refine scf ?_ | refine sgr ?_) | fail)
    refine sw_alloc fun b9 => ?_
    refine sw_store_agg ?_
    repeat' (first | with_reducible (first | refine go1 ?_ | refine sct ?_ | refine scf ?_ | refine sgr ?_) | with_reducible refine sq_rAssign ?_ | (with_reducible refine sc_cond (fun h => ?_) (fun h => ?_)) <;> (try (exfalso; first | contradiction | omega | exact h Iff.rfl)) | fail)
    dsimp only
    simp only [List.cons_append]
    refine sc_lin ([(b8, pts b8 (.cells [Value.int .i64 (pre.length : Int)].toArray 3 (0, 0))), (b7, pts b7 (.cells [Value.slice (some ⟨bq, 0, none⟩) ms.length cq].toArray 54 (0, 0))), (b9, pts b9 (.cells (ckV ck.num (.slice a9 ck.l.length c9) ck.last).toArray 28 (0, 0))), (bq, pts bq (.cells (ckAll ms ++ tq).toArray 28 (0, 0)))]) (llp 0 (llp 1 (llp 2 (llp 3 (llp 4 (llp 5 (llp 6 (llp 7 (llp 8 (llp 9 (lle 10 (llp 11 (llp 12 ll0))))))))))))) (by kernel_rfl) rfl (by kernel_rfl) ?_
    all_goals (iterate 5 refine go1l ?_)
    all_goals (first | refine go1l ?_ | ((refine sl_split 30 (fun h => ?_) (fun h => ?_)) <;> (try (exfalso; first | contradiction | omega | exact h Iff.rfl)) <;> refine go1l ?_))
    all_goals (first | refine go1l ?_ | ((refine sl_split 30 (fun h => ?_) (fun h => ?_)) <;> (try (exfalso; first | contradiction | omega | exact h Iff.rfl)) <;> refine go1l ?_))
    all_goals (first | refine go1l ?_ | ((refine sl_split 30 (fun h => ?_) (fun h => ?_)) <;> (try (exfalso; first | contradiction | omega | exact h Iff.rfl)) <;> refine go1l ?_))
    all_goals (first | (first | refine sl_skip ?_ | refine sl_skip_u ?_ | refine sl_take_g (h := runop_indexN pre.length ⟨rfl, hi2⟩) ?_) | ((refine sl_split 30 (fun h => ?_) (fun h => ?_)) <;> (try (exfalso; first | contradiction | omega | exact h Iff.rfl)) <;> (first | refine sl_skip ?_ | refine sl_skip_u ?_ | refine sl_take_g (h := runop_indexN pre.length ⟨rfl, hi2⟩) ?_)))
    all_goals (first | (first | refine sl_skip ?_ | refine sl_skip_u ?_ | refine sl_take_g (h := runop_load_aggR bq (pre.length * 3) (ckV ck.num v8 ck.last) hrq rfl hel rfl) ?_) | ((refine sl_split 30 (fun h => ?_) (fun h => ?_)) <;> (try (exfalso; first | contradiction | omega | exact h Iff.rfl)) <;> (first | refine sl_skip ?_ | refine sl_skip_u ?_ | refine sl_take_g (h := runop_load_aggR bq (pre.length * 3) (ckV ck.num v8 ck.last) hrq rfl hel rfl) ?_)))
    all_goals refine sl_eff ?_
    all_goals (repeat' (first | with_reducible (first | refine go1 ?_ | refine sct ?_ | refine scf ?_ | refine sgr ?_) | ((with_reducible refine sw_callf hsame ?_); rintro _ _ ⟨rfl, rfl⟩) | with_reducible refine sl_back ?_ | (with_reducible refine sc_cond (fun h => ?_) (fun h => ?_)) <;> (try (exfalso; first | contradiction | omega | exact h Iff.rfl)) | (with_reducible refine sw_guard_split (fun h => ?_) (fun h => ?_)) <;> (try (exfalso; first | contradiction | omega | exact h Iff.rfl)) | (with_reducible refine sw_pick (fun h => ?_) (fun h => ?_)) <;> (try (exfalso; first | contradiction | omega | exact h Iff.rfl)) | fail))
    all_goals (first | refine go1l ?_ | ((refine sl_split 30 (fun h => ?_) (fun h => ?_)) <;> (try (exfalso; first | contradiction | omega | exact h Iff.rfl)) <;> refine go1l ?_))
    all_goals (first | refine go1l ?_ | ((refine sl_split 30 (fun h => ?_) (fun h => ?_)) <;> (try (exfalso; first | contradiction | omega | exact h Iff.rfl)) <;> refine go1l ?_))
    all_goals refine sl_done ?_
    all_goals (repeat' (first | with_reducible refine sw_in (by omega) ?_ | with_reducible (first | refine go1 ?_ | refine sct ?_ | refine scf ?_ | refine sgr ?_) | (with_reducible refine sc_cond (fun h => ?_) (fun h => ?_)) <;> (try (exfalso; first | contradiction | omega | exact h Iff.rfl)) | fail))
    refine sw_store ?_
    repeat' (first | with_reducible (first | refine go1 ?_ | refine sct ?_ | refine scf ?_ | refine sgr ?_) | fail)
    refine sq_rEnd ?_
    simp only [List.cons_append, List.length_append, List.length_singleton]
    rw [show ((pre.length + 1 : Nat) : Int) = (pre.length : Int) + 1 by omega]
    repeat' (first | with_reducible exact Ent.refl _ | with_reducible refine Ent.take_eq ?_ ?_ | rfl | with_reducible refine Ent.oR ?_ | with_reducible refine Ent.trans (oR.drop _ _ _) ?_ | with_reducible refine Ent.trans (Ent.drop _ _) ?_)
  · intro r9 xs hD
    unfold CutDn at hD
    simp only [List.zip_cons_cons, List.zip_nil_left, List.cons_append, List.nil_append]
    rw [show (xs.length : Int) = (ms.length : Int) by omega]
    repeat' (first | with_reducible (first | refine go1 ?_ | refine sct ?_ | refine scf ?_ | refine sgr ?_) | with_reducible refine sq_block_m ?_ | with_reducible refine sq_then_m ?_ | (with_reducible refine sc_cond (fun h => ?_) (fun h => ?_)) <;> (try (exfalso; first | contradiction | omega | exact h Iff.rfl)) | fail)
    refine sw_store ?_
    rw [decide_eq_true (rfl : (ms.length : Int) = (ms.length : Int))]
    repeat' (first | with_reducible (first | refine go1 ?_ | refine sct ?_ | refine scf ?_ | refine sgr ?_) | fail)
    refine sq_ret_m rfl ?_
    refine sq_retc Try.results4 ?_
    refine ⟨_, ⟨rfl, rfl⟩, ?_⟩
    repeat' (first | with_reducible exact Ent.refl _ | with_reducible refine Ent.take_eq ?_ ?_ | rfl | with_reducible refine Ent.oR ?_ | with_reducible refine Ent.trans (oR.drop _ _ _) ?_ | with_reducible refine Ent.trans (Ent.drop _ _) ?_)
  · intro r9 c9 pre x _
    exact sc_falseR (A := [(r9, defers0 r9), (bx, cutX bx v1), (7110, SPO l v1)])
end Go.Gsl
