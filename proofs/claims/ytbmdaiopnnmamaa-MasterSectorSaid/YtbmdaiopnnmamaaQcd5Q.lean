/- The document's codec: frames. -/
import Derived.Test.YtbmdaiopnnmamaaQcd4Q
import Derived.Test.YtbmdaiopnnmamaaGB
import Derived.Test.YtbmdaiopnnmamaaGD
namespace Go.Gsl
set_option linter.unusedVariables false
open Go.Proofs

theorem q1Frame_ok (k : Nat) (r : HProp) (v : Value) (bs : List Int) (hv : RdB r v bs) (hb : Byt bs) (hl : bs.length ≤ 70368744177664) :
    Spec Try.prog 70 [v] [k] [r] fun F w Rs' => (1048576 < bs.length ∧ w = .tuple #[.slice none 0 0, .int .i64 3] ∧ Rs' = (k, r) :: F) ∨
      (bs.length ≤ 1048576 ∧ ∃ b t, w = .tuple #[.slice (some ⟨b, 0, none⟩) (frame bs).length ((frame bs).length + t.length), .int .i64 0] ∧ Rs' = (b, pts b (.cells ((frame bs).map (Value.int .u8) ++ t).toArray 5 (0, 0))) :: (k, r) :: F) := by
  refine spec_of Try.func70 rfl Try.ntmps70 rfl ?_
  intro w0 F
  obtain ⟨a, c, rfl, hsome, hc, hr⟩ := hv.gen
  have hA := adler_in bs
  have hw := width_in bs.length
  have hil := intB_len bs.length
  repeat' (first | with_reducible (first | refine sw_op ?_ | refine sw_op_ ?_) | with_reducible (first | refine sw_nil ?_ | refine sq_then ?_ | refine sc_seq ?_ | refine sc_region ?_ | refine sw_guard_skip ?_ | refine sw_guard_skip_ ?_ | refine sw_guard_run ?_ | refine sc_cond_true ?_ | refine sc_cond_false ?_ | refine sc_ret ?_ | refine sq_then_ret ?_ | refine sc_skip ?_ | refine sc_block ?_ | refine sq_block ?_ | refine sq_block_ret ?_ | refine sc_exit ?_ | refine sq_then_exit ?_ | refine sq_block_exit ?_ | refine sq_block_past ?_ | refine sq_round_ret ?_ | refine sq_round_exit ?_) | (with_reducible refine sc_cond (fun h => ?_) (fun h => ?_)) <;> (try (exfalso; first | contradiction | omega | exact h Iff.rfl)) | fail)
  · refine sq_ret2 Try.results70 ?_
    exact ⟨_, .inl ⟨by omega, rfl, rfl⟩, Ent.refl _⟩
  · refine sw_call (q1Bytes_ok k r _ bs hv hl) ?_
    rintro _ _ ⟨b1, t1, rfl, rfl⟩
    repeat' (first | with_reducible (first | refine sw_op ?_ | refine sw_op_ ?_) | with_reducible (first | refine sw_nil ?_ | refine sq_then ?_ | refine sc_seq ?_ | refine sc_region ?_ | refine sw_guard_skip ?_ | refine sw_guard_skip_ ?_ | refine sw_guard_run ?_ | refine sc_cond_true ?_ | refine sc_cond_false ?_ | refine sc_ret ?_ | refine sq_then_ret ?_ | refine sc_skip ?_ | refine sc_block ?_ | refine sq_block ?_ | refine sq_block_ret ?_ | refine sc_exit ?_ | refine sq_then_exit ?_ | refine sq_block_exit ?_ | refine sq_block_past ?_ | refine sq_round_ret ?_ | refine sq_round_exit ?_) | fail)
    refine sw_call (q1Sum_ok k r _ bs hv hb (by omega)) ?_
    rintro _ _ ⟨rfl, rfl⟩
    repeat' (first | with_reducible (first | refine sw_op ?_ | refine sw_op_ ?_) | with_reducible (first | refine sw_nil ?_ | refine sq_then ?_ | refine sc_seq ?_ | refine sc_region ?_ | refine sw_guard_skip ?_ | refine sw_guard_skip_ ?_ | refine sw_guard_run ?_ | refine sc_cond_true ?_ | refine sc_cond_false ?_ | refine sc_ret ?_ | refine sq_then_ret ?_ | refine sc_skip ?_ | refine sc_block ?_ | refine sq_block ?_ | refine sq_block_ret ?_ | refine sc_exit ?_ | refine sq_then_exit ?_ | refine sq_block_exit ?_ | refine sq_block_past ?_ | refine sq_round_ret ?_ | refine sq_round_exit ?_) | fail)
    refine sw_call (q1Tail_ok (adler bs) hA) ?_
    rintro _ _ ⟨b4, rfl, rfl⟩
    repeat' (first | with_reducible (first | refine sw_op ?_ | refine sw_op_ ?_) | with_reducible (first | refine sw_nil ?_ | refine sq_then ?_ | refine sc_seq ?_ | refine sc_region ?_ | refine sw_guard_skip ?_ | refine sw_guard_skip_ ?_ | refine sw_guard_run ?_ | refine sc_cond_true ?_ | refine sc_cond_false ?_ | refine sc_ret ?_ | refine sq_then_ret ?_ | refine sc_skip ?_ | refine sc_block ?_ | refine sq_block ?_ | refine sq_block_ret ?_ | refine sc_exit ?_ | refine sq_then_exit ?_ | refine sq_block_exit ?_ | refine sq_block_past ?_ | refine sq_round_ret ?_ | refine sq_round_exit ?_) | fail)
    have hl1 : (intB bs.length ++ bs).length = width bs.length + bs.length := by rw [List.length_append, hil]
    refine sw_append (src := (be4 (adler bs)).map (Value.int .u8)) src_pts0 (one_ints _ _) ⟨by omega, by rw [List.length_append, List.length_map], by rw [List.length_map]; rfl, by omega, by omega⟩ fun b5 t5 => ?_
    rw [List.take_left' (by rw [List.length_map])]
    repeat' (first | with_reducible (first | refine sw_op ?_ | refine sw_op_ ?_) | with_reducible (first | refine sw_nil ?_ | refine sq_then ?_ | refine sc_seq ?_ | refine sc_region ?_ | refine sw_guard_skip ?_ | refine sw_guard_skip_ ?_ | refine sw_guard_run ?_ | refine sc_cond_true ?_ | refine sc_cond_false ?_ | refine sc_ret ?_ | refine sq_then_ret ?_ | refine sc_skip ?_ | refine sc_block ?_ | refine sq_block ?_ | refine sq_block_ret ?_ | refine sc_exit ?_ | refine sq_then_exit ?_ | refine sq_block_exit ?_ | refine sq_block_past ?_ | refine sq_round_ret ?_ | refine sq_round_exit ?_) | fail)
    refine sq_ret2 Try.results70 ?_
    have hfl : (frame bs).length = (intB bs.length ++ bs).length + 4 := by unfold frame; rw [List.length_append]; rfl
    refine ⟨_, .inr ⟨by omega, b5, t5, ?_, rfl⟩, ?_⟩
    · rw [hfl]
    · unfold frame
      simp only [List.map_append]
      repeat' (first | with_reducible exact Ent.refl _ | with_reducible refine Ent.take_eq ?_ ?_ | rfl | with_reducible refine Ent.trans (Ent.drop _ _) ?_)

theorem be4_of {xs : List Int} (hl : xs.length = 4) (hb : Byt xs) : be4 (ofBE xs) = xs := by
  match xs, hl with
  | [a, b, c, d], _ =>
    have h1 := hb a (by simp)
    have h2 := hb b (by simp)
    have h3 := hb c (by simp)
    have h4 := hb d (by simp)
    simp only [be4, ofBE, List.foldl]
    congr 1
    · omega
    · congr 1
      · omega
      · congr 1
        · omega
        · congr 1
          omega


set_option maxHeartbeats 1000000 in
theorem q1Unframe_ok (k : Nat) (r : HProp) (v : Value) (bs : List Int) (hv : RdB r v bs) (hb : Byt bs) (hl : bs.length ≤ 70368744177664) :
    Spec Try.prog 71 [v] [k] [r] fun F w Rs' => ((unfr bs).1 ≠ 0 ∧ w = .tuple #[.slice none 0 0, .int .i64 0, .int .i64 (unfr bs).1] ∧ Rs' = (k, r) :: F) ∨
      ((unfr bs).1 = 0 ∧ ∃ k2 r2 vo, w = .tuple #[vo, .int .i64 (unfr bs).2.2, .int .i64 0] ∧ RdB r2 vo (unfr bs).2.1 ∧ Rs' = (k2, r2) :: (k, r) :: F) := by
  refine spec_of Try.func71 rfl Try.ntmps71 rfl ?_
  intro w0 F
  obtain ⟨a, c, rfl, hsome, hc, hr⟩ := hv.gen
  have htk := takeInt_ok hb
  repeat' (first | with_reducible (first | refine sw_op ?_ | refine sw_op_ ?_) | ((with_reducible refine sw_call (q1ParseInt_ok k r _ bs hv hb (by omega)) ?_); rintro _ _ ⟨rfl, rfl⟩) | with_reducible (first | refine sw_nil ?_ | refine sq_then ?_ | refine sc_seq ?_ | refine sc_region ?_ | refine sw_guard_skip ?_ | refine sw_guard_skip_ ?_ | refine sw_guard_run ?_ | refine sc_cond_true ?_ | refine sc_cond_false ?_ | refine sc_ret ?_ | refine sq_then_ret ?_ | refine sc_skip ?_ | refine sc_block ?_ | refine sq_block ?_ | refine sq_block_ret ?_ | refine sc_exit ?_ | refine sq_then_exit ?_ | refine sq_block_exit ?_ | refine sq_block_past ?_ | refine sq_round_ret ?_ | refine sq_round_exit ?_) | fail)
  unfold unfr
  generalize takeInt bs = T at htk ⊢
  rcases T with ⟨n, K, e⟩
  simp only at htk ⊢
  rcases Classical.em (e = 0) with rfl | he
  · obtain ⟨h1, h2, h3, h4, h5⟩ := htk rfl
    clear htk
    rw [if_neg (by omega)]
    obtain ⟨K, rfl⟩ : ∃ K' : Nat, K = K' := ⟨K.toNat, by omega⟩
    rw [Int.toNat_natCast]
    obtain ⟨b, o, rfl⟩ := hsome (by omega)
    unfold unfrK
    repeat' (first | with_reducible (first | refine sw_in (by omega) ?_ | refine sw_op ?_ | refine sw_op_ ?_) | with_reducible (first | refine sw_nil ?_ | refine sq_then ?_ | refine sc_seq ?_ | refine sc_region ?_ | refine sw_guard_skip ?_ | refine sw_guard_skip_ ?_ | refine sw_guard_run ?_ | refine sc_cond_true ?_ | refine sc_cond_false ?_ | refine sc_ret ?_ | refine sq_then_ret ?_ | refine sc_skip ?_ | refine sc_block ?_ | refine sq_block ?_ | refine sq_block_ret ?_ | refine sc_exit ?_ | refine sq_then_exit ?_ | refine sq_block_exit ?_ | refine sq_block_past ?_ | refine sq_round_ret ?_ | refine sq_round_exit ?_) | (with_reducible refine sc_cond (fun h => ?_) (fun h => ?_)) <;> (try (exfalso; first | contradiction | omega | exact h Iff.rfl)) | fail)
    · rw [if_pos h]
      refine sq_ret3 Try.results71 ?_
      exact ⟨_, .inl ⟨by decide, rfl, rfl⟩, Ent.refl _⟩
    · rw [if_neg (by omega), if_pos (by omega)]
      refine sq_ret3 Try.results71 ?_
      exact ⟨_, .inl ⟨by decide, rfl, rfl⟩, Ent.refl _⟩
    · rw [if_neg (by omega), if_neg (by omega), if_pos (by omega)]
      refine sq_ret3 Try.results71 ?_
      exact ⟨_, .inl ⟨by decide, rfl, rfl⟩, Ent.refl _⟩
    · rw [if_neg (by omega), if_neg (by omega), if_neg (by omega)]
      obtain ⟨N, rfl⟩ : ∃ N : Nat, n = N := ⟨n.toNat, by omega⟩
      rw [Int.toNat_natCast]
      have hfit : K + N + 4 ≤ bs.length := by omega
      have hNl : ((bs.drop K).take N).length = N := by rw [List.length_take, List.length_drop]; omega
      refine sw_slice K (K + N) c (o + K) (by omega) ⟨by omega, by omega, rfl, by split <;> omega⟩ ?_
      have hKN : K + N - K = ((bs.drop K).take N).length := by omega
      rw [hKN]
      have hsub := RdB.sub hc hr K N (by omega)
      have hsb := hb.sub K N
      have hA := adler_in ((bs.drop K).take N)
      have hx4 : ((bs.drop (K + N)).take 4).length = 4 := by rw [List.length_take, List.length_drop]; omega
      have hxb := hb.sub (K + N) 4
      have hx := be4_of hx4 hxb
      have hat : ∀ j, j < 4 → ((bs.drop (K + N)).take 4)[j]? = bs[K + N + j]? := fun j hj => by rw [List.getElem?_take, if_pos hj, List.getElem?_drop]
      generalize hout : (bs.drop K).take N = out at *
      have hsum : (∀ j, j < 4 → bs[K + N + j]? = (be4 (adler out))[j]?) ↔ adler out = ofBE ((bs.drop (K + N)).take 4) := by
        constructor
        · intro h
          have : (bs.drop (K + N)).take 4 = be4 (adler out) := by
            apply List.ext_getElem?
            intro j
            rcases Nat.lt_or_ge j 4 with hj | hj
            · rw [hat j hj, h j hj]
            · rw [List.getElem?_eq_none (by omega), List.getElem?_eq_none (by show 4 ≤ j; exact hj)]
          rw [this, ofBE_be4 hA]
        · intro h j hj
          rw [← hat j hj, ← hx, ← h]
      rcases Nat.eq_zero_or_pos N with hN0 | hNp
      · have hnil : out = [] := List.eq_nil_of_length_eq_zero (by omega)
        subst hnil
        refine sw_append_nn (m := ([] : List Int).length) rfl ?_
        -- []: where the bytes are, (RdB.nil (r := r)): that they can be read, .slice none 0 0: their value, (k, r) :: F: what is held besides, refine ⟨_, .inr ⟨rfl, b4, pts b4 (.cells ((be4 (adler ([] : List Int))).map (Value.int .u8)).toArray 5 (0, 0)), .slice none 0 0, rfl, .nil, rfl⟩, ?_⟩; repeat' (first | with_reducible exact Ent.refl _ | with_reducible refine Ent.take_eq ?_ ?_ | rfl | with_reducible refine Ent.trans (Ent.drop _ _) ?_): what holds the answer, its proof
        repeat' (first | with_reducible (first | refine sw_op ?_ | refine sw_op_ ?_) | with_reducible (first | refine sw_nil ?_ | refine sq_then ?_ | refine sc_seq ?_ | refine sc_region ?_ | refine sw_guard_skip ?_ | refine sw_guard_skip_ ?_ | refine sw_guard_run ?_ | refine sc_cond_true ?_ | refine sc_cond_false ?_ | refine sc_ret ?_ | refine sq_then_ret ?_ | refine sc_skip ?_ | refine sc_block ?_ | refine sq_block ?_ | refine sq_block_ret ?_ | refine sc_exit ?_ | refine sq_then_exit ?_ | refine sq_block_exit ?_ | refine sq_block_past ?_ | refine sq_round_ret ?_ | refine sq_round_exit ?_) | fail)
        refine sw_call (q1Sum_ok k _ _ [] (RdB.nil (r := r)) hsb (by omega)) ?_
        rintro _ _ ⟨rfl, rfl⟩
        repeat' (first | with_reducible (first | refine sw_op ?_ | refine sw_op_ ?_) | with_reducible (first | refine sw_nil ?_ | refine sq_then ?_ | refine sc_seq ?_ | refine sc_region ?_ | refine sw_guard_skip ?_ | refine sw_guard_skip_ ?_ | refine sw_guard_run ?_ | refine sc_cond_true ?_ | refine sc_cond_false ?_ | refine sc_ret ?_ | refine sq_then_ret ?_ | refine sc_skip ?_ | refine sc_block ?_ | refine sq_block ?_ | refine sq_block_ret ?_ | refine sc_exit ?_ | refine sq_then_exit ?_ | refine sq_block_exit ?_ | refine sq_block_past ?_ | refine sq_round_ret ?_ | refine sq_round_exit ?_) | fail)
        refine sw_call (q1Tail_ok (adler []) hA) ?_
        rintro _ _ ⟨b4, rfl, rfl⟩
        repeat' (first | with_reducible (first | refine sw_op ?_ | refine sw_op_ ?_) | with_reducible (first | refine sw_nil ?_ | refine sq_then ?_ | refine sc_seq ?_ | refine sc_region ?_ | refine sw_guard_skip ?_ | refine sw_guard_skip_ ?_ | refine sw_guard_run ?_ | refine sc_cond_true ?_ | refine sc_cond_false ?_ | refine sc_ret ?_ | refine sq_then_ret ?_ | refine sc_skip ?_ | refine sc_block ?_ | refine sq_block ?_ | refine sq_block_ret ?_ | refine sc_exit ?_ | refine sq_then_exit ?_ | refine sq_block_exit ?_ | refine sq_block_past ?_ | refine sq_round_ret ?_ | refine sq_round_exit ?_) | fail)
        refine sc_loop (α := { i : Nat // i ≤ 4 ∧ ∀ j, j < i → bs[K + N + j]? = (be4 (adler []))[j]? }) (fun i => [(0, .slice (some ⟨b, o, none⟩) bs.length c), (8, .int .i64 ((K : Int) + (N : Int) + 4)), (9, .slice none 0 0), (10, .slice (some ⟨b4, 0, none⟩) 4 4), (11, .int .i64 (i.1 : Int))])
          (fun _ => (b4, pts b4 (.cells ((be4 (adler [])).map (Value.int .u8)).toArray 5 (0, 0))) :: (k, r) :: F) (fun i => 4 - i.1) ⟨0, Nat.zero_le _, fun j h => by omega⟩ ?_ ?_ ?_
        · repeat' (first | exact says_nil | refine says_cons rfl ?_ | refine says_cons (by simp) ?_)
        · repeat' (first | with_reducible exact Ent.refl _ | with_reducible refine Ent.take_eq ?_ ?_ | rfl | with_reducible refine Ent.trans (Ent.drop _ _) ?_)
        rintro ⟨i, hi, hz⟩ e
        (try simp only at hi hz)
        simp only [List.cons_append, List.nil_append]
        repeat' (first | with_reducible (first | refine sw_in (by omega) ?_ | refine sw_op ?_ | refine sw_op_ ?_) | with_reducible (first | refine sw_nil ?_ | refine sq_then ?_ | refine sc_seq ?_ | refine sc_region ?_ | refine sw_guard_skip ?_ | refine sw_guard_skip_ ?_ | refine sw_guard_run ?_ | refine sc_cond_true ?_ | refine sc_cond_false ?_ | refine sc_ret ?_ | refine sq_then_ret ?_ | refine sc_skip ?_ | refine sc_block ?_ | refine sq_block ?_ | refine sq_block_ret ?_ | refine sc_exit ?_ | refine sq_then_exit ?_ | refine sq_block_exit ?_ | refine sq_block_past ?_ | refine sq_round_ret ?_ | refine sq_round_exit ?_) | (with_reducible refine sc_cond (fun h => ?_) (fun h => ?_)) <;> (try (exfalso; first | contradiction | omega | exact h Iff.rfl)) | fail)
        · have hi2 : K + N + i < bs.length := by omega
          have hri : bs[K + N + i]? = some bs[K + N + i] := List.getElem?_eq_getElem hi2
          have hi4 : i < (be4 (adler [])).length := by show i < 4; omega
          have hsi : (be4 (adler []))[i]? = some (be4 (adler []))[i] := List.getElem?_eq_getElem hi4
          have hrs : Reads (pts b4 (.cells ((be4 (adler [])).map (Value.int .u8)).toArray 5 (0, 0))) (some ⟨b4, 0, none⟩) ((be4 (adler [])).map (Value.int .u8)) := reads_pts fun j v hj => by rw [Nat.zero_add]; exact hj
          have hm1 : (bs.map (Value.int .u8))[K + N + i]? = some (.int .u8 bs[K + N + i]) := by rw [List.getElem?_map, hri]; rfl
          have hm2 : ((be4 (adler [])).map (Value.int .u8))[i]? = some (.int .u8 (be4 (adler []))[i]) := by rw [List.getElem?_map, hsi]; rfl
          generalize bs[K + N + i] = x at *
          generalize (be4 (adler []))[i] = y at *
          refine sc_drawC (m := 12) ([(b4, pts b4 (.cells ((be4 (adler [])).map (Value.int .u8)).toArray 5 (0, 0))), (k, r)]) (by repeat' (first | with_reducible exact calm_post | with_reducible refine Calm.then ?_ | with_reducible refine Calm.block ?_ | with_reducible refine Calm.round ?_ | with_reducible refine Calm.mark ?_)) (by kernel_rfl) rfl (fun hcalm => ?_)
          all_goals (first | refine sg_take 0 hcalm rfl (by kernel_rfl) (by kernel_rfl) (by kernel_rfl) ?_)
          all_goals (first | refine sg_take 1 hcalm rfl (by kernel_rfl) (by kernel_rfl) (by kernel_rfl) ?_)
          all_goals (first | refine sg_take_as 2 hcalm rfl (by kernel_rfl) (by kernel_rfl) (by kernel_rfl) (by rw [IntWalk.i64_in _ (by omega)]) ?_ | refine sg_take 2 hcalm rfl (by kernel_rfl) (by kernel_rfl) (by kernel_rfl) ?_)
          all_goals (first | refine sg_take 3 hcalm rfl (by kernel_rfl) (by kernel_rfl) (by kernel_rfl) ?_)
          all_goals (first | refine sg_take_as 4 hcalm rfl (by kernel_rfl) (by kernel_rfl) (by kernel_rfl) (by rw [IntWalk.i64_in _ (by omega)]) ?_ | refine sg_take 4 hcalm rfl (by kernel_rfl) (by kernel_rfl) (by kernel_rfl) ?_)
          all_goals (first | refine sg_take 5 hcalm rfl (by kernel_rfl) (by kernel_rfl) (by kernel_rfl) (h := runop_index (K + N + i) (by omega)) ?_ | refine sg_take 5 hcalm rfl (by kernel_rfl) (by kernel_rfl) (by kernel_rfl) ?_)
          all_goals (first | refine sg_take 6 hcalm rfl (by kernel_rfl) (by kernel_rfl) (by kernel_rfl) (h := runop_load_rd k (K + N + i) (.int .u8 x) hr hm1 rfl) ?_ | refine sg_take 6 hcalm rfl (by kernel_rfl) (by kernel_rfl) (by kernel_rfl) ?_)
          all_goals (first | refine sg_take 7 hcalm rfl (by kernel_rfl) (by kernel_rfl) (by kernel_rfl) ?_)
          all_goals (first | refine sg_take 8 hcalm rfl (by kernel_rfl) (by kernel_rfl) (by kernel_rfl) ?_)
          all_goals (first | refine sg_take 9 hcalm rfl (by kernel_rfl) (by kernel_rfl) (by kernel_rfl) (h := runop_idx i (by omega)) ?_ | refine sg_take 9 hcalm rfl (by kernel_rfl) (by kernel_rfl) (by kernel_rfl) ?_)
          all_goals (first | refine sg_take 10 hcalm rfl (by kernel_rfl) (by kernel_rfl) (by kernel_rfl) (h := runop_load_rd b4 i (.int .u8 y) hrs hm2 (by omega)) ?_ | refine sg_take 10 hcalm rfl (by kernel_rfl) (by kernel_rfl) (by kernel_rfl) ?_)
          all_goals (first | refine sg_take 11 hcalm rfl (by kernel_rfl) (by kernel_rfl) (by kernel_rfl) ?_)
          all_goals (refine sg_done (by kernel_rfl) rfl ?_)
          repeat' (first | with_reducible (first | refine sw_in (by omega) ?_ | refine sw_op ?_ | refine sw_op_ ?_) | with_reducible (first | refine sw_nil ?_ | refine sq_then ?_ | refine sc_seq ?_ | refine sc_region ?_ | refine sw_guard_skip ?_ | refine sw_guard_skip_ ?_ | refine sw_guard_run ?_ | refine sc_cond_true ?_ | refine sc_cond_false ?_ | refine sc_ret ?_ | refine sq_then_ret ?_ | refine sc_skip ?_ | refine sc_block ?_ | refine sq_block ?_ | refine sq_block_ret ?_ | refine sc_exit ?_ | refine sq_then_exit ?_ | refine sq_block_exit ?_ | refine sq_block_past ?_ | refine sq_round_ret ?_ | refine sq_round_exit ?_) | (with_reducible refine sc_cond (fun h => ?_) (fun h => ?_)) <;> (try (exfalso; first | contradiction | omega | exact h Iff.rfl)) | fail)
          · have hne : adler [] ≠ ofBE ((bs.drop (K + N)).take 4) := fun h9 => by
              have := hsum.2 h9 i (by omega)
              rw [hri, hsi] at this
              injection this with this
              omega
            rw [if_pos hne]
            refine sq_ret3 Try.results71 ?_
            refine ⟨_, .inl ⟨by decide, rfl, rfl⟩, ?_⟩
            repeat' (first | with_reducible exact Ent.refl _ | with_reducible refine Ent.take_eq ?_ ?_ | rfl | with_reducible refine Ent.trans (Ent.drop _ _) ?_)
          · have hxy : x = y := by omega
            subst hxy
            refine sq_round ⟨i + 1, by omega, fun j hj => ?_⟩ ?_ ?_ ?_
            · rcases Nat.lt_succ_iff_lt_or_eq.1 hj with h9 | rfl
              · exact hz j h9
              · rw [hri, hsi]
            · show 4 - (i + 1) < 4 - i
              omega
            · repeat' (first | exact says_nil | refine says_cons rfl ?_ | refine says_cons (by simp) ?_)
            · repeat' (first | with_reducible exact Ent.refl _ | with_reducible refine Ent.take_eq ?_ ?_ | rfl | with_reducible refine Ent.trans (Ent.drop _ _) ?_)
        · have hi4 : i = 4 := by omega
          subst hi4
          have heq := hsum.1 hz
          rw [if_neg (by simpa using heq)]
          repeat' (first | with_reducible (first | refine sw_op ?_ | refine sw_op_ ?_) | with_reducible (first | refine sw_nil ?_ | refine sq_then ?_ | refine sc_seq ?_ | refine sc_region ?_ | refine sw_guard_skip ?_ | refine sw_guard_skip_ ?_ | refine sw_guard_run ?_ | refine sc_cond_true ?_ | refine sc_cond_false ?_ | refine sc_ret ?_ | refine sq_then_ret ?_ | refine sc_skip ?_ | refine sc_block ?_ | refine sq_block ?_ | refine sq_block_ret ?_ | refine sc_exit ?_ | refine sq_then_exit ?_ | refine sq_block_exit ?_ | refine sq_block_past ?_ | refine sq_round_ret ?_ | refine sq_round_exit ?_) | fail)
          refine sq_ret3 Try.results71 ?_
          refine ⟨_, .inr ⟨rfl, b4, pts b4 (.cells ((be4 (adler ([] : List Int))).map (Value.int .u8)).toArray 5 (0, 0)), .slice none 0 0, rfl, .nil, rfl⟩, ?_⟩; repeat' (first | with_reducible exact Ent.refl _ | with_reducible refine Ent.take_eq ?_ ?_ | rfl | with_reducible refine Ent.trans (Ent.drop _ _) ?_)
      · obtain ⟨a2, c2, ha2, hs2, hc2, hr2⟩ := hsub.gen
        cases ha2
        refine sw_append_nil (src := out.map (Value.int .u8)) (fun w hw => hr2.sat (k := k) hw) ⟨by omega, by rw [List.length_map], by omega, by omega⟩ fun b3 t3 => ?_
        -- out: where the bytes are, (RdB.own (b := b3) (r := t3)): that they can be read, .slice (some ⟨b3, 0, none⟩) out.length (out.length + t3.length): their value, (b3, pts b3 (.cells (out.map (Value.int .u8) ++ t3).toArray 5 (0, 0))) :: (k, r) :: F: what is held besides, refine ⟨_, .inr ⟨rfl, b3, pts b3 (.cells (out.map (Value.int .u8) ++ t3).toArray 5 (0, 0)), _, rfl, RdB.own, rfl⟩, ?_⟩; repeat' (first | with_reducible exact Ent.refl _ | with_reducible refine Ent.take_eq ?_ ?_ | rfl | with_reducible refine Ent.trans (Ent.drop _ _) ?_): what holds the answer, its proof
        repeat' (first | with_reducible (first | refine sw_op ?_ | refine sw_op_ ?_) | with_reducible (first | refine sw_nil ?_ | refine sq_then ?_ | refine sc_seq ?_ | refine sc_region ?_ | refine sw_guard_skip ?_ | refine sw_guard_skip_ ?_ | refine sw_guard_run ?_ | refine sc_cond_true ?_ | refine sc_cond_false ?_ | refine sc_ret ?_ | refine sq_then_ret ?_ | refine sc_skip ?_ | refine sc_block ?_ | refine sq_block ?_ | refine sq_block_ret ?_ | refine sc_exit ?_ | refine sq_then_exit ?_ | refine sq_block_exit ?_ | refine sq_block_past ?_ | refine sq_round_ret ?_ | refine sq_round_exit ?_) | fail)
        refine sw_call (q1Sum_ok b3 _ _ out (RdB.own (b := b3) (r := t3)) hsb (by omega)) ?_
        rintro _ _ ⟨rfl, rfl⟩
        repeat' (first | with_reducible (first | refine sw_op ?_ | refine sw_op_ ?_) | with_reducible (first | refine sw_nil ?_ | refine sq_then ?_ | refine sc_seq ?_ | refine sc_region ?_ | refine sw_guard_skip ?_ | refine sw_guard_skip_ ?_ | refine sw_guard_run ?_ | refine sc_cond_true ?_ | refine sc_cond_false ?_ | refine sc_ret ?_ | refine sq_then_ret ?_ | refine sc_skip ?_ | refine sc_block ?_ | refine sq_block ?_ | refine sq_block_ret ?_ | refine sc_exit ?_ | refine sq_then_exit ?_ | refine sq_block_exit ?_ | refine sq_block_past ?_ | refine sq_round_ret ?_ | refine sq_round_exit ?_) | fail)
        refine sw_call (q1Tail_ok (adler out) hA) ?_
        rintro _ _ ⟨b4, rfl, rfl⟩
        repeat' (first | with_reducible (first | refine sw_op ?_ | refine sw_op_ ?_) | with_reducible (first | refine sw_nil ?_ | refine sq_then ?_ | refine sc_seq ?_ | refine sc_region ?_ | refine sw_guard_skip ?_ | refine sw_guard_skip_ ?_ | refine sw_guard_run ?_ | refine sc_cond_true ?_ | refine sc_cond_false ?_ | refine sc_ret ?_ | refine sq_then_ret ?_ | refine sc_skip ?_ | refine sc_block ?_ | refine sq_block ?_ | refine sq_block_ret ?_ | refine sc_exit ?_ | refine sq_then_exit ?_ | refine sq_block_exit ?_ | refine sq_block_past ?_ | refine sq_round_ret ?_ | refine sq_round_exit ?_) | fail)
        refine sc_loop (α := { i : Nat // i ≤ 4 ∧ ∀ j, j < i → bs[K + N + j]? = (be4 (adler out))[j]? }) (fun i => [(0, .slice (some ⟨b, o, none⟩) bs.length c), (8, .int .i64 ((K : Int) + (N : Int) + 4)), (9, .slice (some ⟨b3, 0, none⟩) out.length (out.length + t3.length)), (10, .slice (some ⟨b4, 0, none⟩) 4 4), (11, .int .i64 (i.1 : Int))])
          (fun _ => (b4, pts b4 (.cells ((be4 (adler out)).map (Value.int .u8)).toArray 5 (0, 0))) :: (b3, pts b3 (.cells (out.map (Value.int .u8) ++ t3).toArray 5 (0, 0))) :: (k, r) :: F) (fun i => 4 - i.1) ⟨0, Nat.zero_le _, fun j h => by omega⟩ ?_ ?_ ?_
        · repeat' (first | exact says_nil | refine says_cons rfl ?_ | refine says_cons (by simp) ?_)
        · repeat' (first | with_reducible exact Ent.refl _ | with_reducible refine Ent.take_eq ?_ ?_ | rfl | with_reducible refine Ent.trans (Ent.drop _ _) ?_)
        rintro ⟨i, hi, hz⟩ e
        (try simp only at hi hz)
        simp only [List.cons_append, List.nil_append]
        repeat' (first | with_reducible (first | refine sw_in (by omega) ?_ | refine sw_op ?_ | refine sw_op_ ?_) | with_reducible (first | refine sw_nil ?_ | refine sq_then ?_ | refine sc_seq ?_ | refine sc_region ?_ | refine sw_guard_skip ?_ | refine sw_guard_skip_ ?_ | refine sw_guard_run ?_ | refine sc_cond_true ?_ | refine sc_cond_false ?_ | refine sc_ret ?_ | refine sq_then_ret ?_ | refine sc_skip ?_ | refine sc_block ?_ | refine sq_block ?_ | refine sq_block_ret ?_ | refine sc_exit ?_ | refine sq_then_exit ?_ | refine sq_block_exit ?_ | refine sq_block_past ?_ | refine sq_round_ret ?_ | refine sq_round_exit ?_) | (with_reducible refine sc_cond (fun h => ?_) (fun h => ?_)) <;> (try (exfalso; first | contradiction | omega | exact h Iff.rfl)) | fail)
        · have hi2 : K + N + i < bs.length := by omega
          have hri : bs[K + N + i]? = some bs[K + N + i] := List.getElem?_eq_getElem hi2
          have hi4 : i < (be4 (adler out)).length := by show i < 4; omega
          have hsi : (be4 (adler out))[i]? = some (be4 (adler out))[i] := List.getElem?_eq_getElem hi4
          have hrs : Reads (pts b4 (.cells ((be4 (adler out)).map (Value.int .u8)).toArray 5 (0, 0))) (some ⟨b4, 0, none⟩) ((be4 (adler out)).map (Value.int .u8)) := reads_pts fun j v hj => by rw [Nat.zero_add]; exact hj
          have hm1 : (bs.map (Value.int .u8))[K + N + i]? = some (.int .u8 bs[K + N + i]) := by rw [List.getElem?_map, hri]; rfl
          have hm2 : ((be4 (adler out)).map (Value.int .u8))[i]? = some (.int .u8 (be4 (adler out))[i]) := by rw [List.getElem?_map, hsi]; rfl
          generalize bs[K + N + i] = x at *
          generalize (be4 (adler out))[i] = y at *
          refine sc_drawC (m := 12) ([(b4, pts b4 (.cells ((be4 (adler out)).map (Value.int .u8)).toArray 5 (0, 0))), (k, r)]) (by repeat' (first | with_reducible exact calm_post | with_reducible refine Calm.then ?_ | with_reducible refine Calm.block ?_ | with_reducible refine Calm.round ?_ | with_reducible refine Calm.mark ?_)) (by kernel_rfl) rfl (fun hcalm => ?_)
          all_goals (first | refine sg_take 0 hcalm rfl (by kernel_rfl) (by kernel_rfl) (by kernel_rfl) ?_)
          all_goals (first | refine sg_take 1 hcalm rfl (by kernel_rfl) (by kernel_rfl) (by kernel_rfl) ?_)
          all_goals (first | refine sg_take_as 2 hcalm rfl (by kernel_rfl) (by kernel_rfl) (by kernel_rfl) (by rw [IntWalk.i64_in _ (by omega)]) ?_ | refine sg_take 2 hcalm rfl (by kernel_rfl) (by kernel_rfl) (by kernel_rfl) ?_)
          all_goals (first | refine sg_take 3 hcalm rfl (by kernel_rfl) (by kernel_rfl) (by kernel_rfl) ?_)
          all_goals (first | refine sg_take_as 4 hcalm rfl (by kernel_rfl) (by kernel_rfl) (by kernel_rfl) (by rw [IntWalk.i64_in _ (by omega)]) ?_ | refine sg_take 4 hcalm rfl (by kernel_rfl) (by kernel_rfl) (by kernel_rfl) ?_)
          all_goals (first | refine sg_take 5 hcalm rfl (by kernel_rfl) (by kernel_rfl) (by kernel_rfl) (h := runop_index (K + N + i) (by omega)) ?_ | refine sg_take 5 hcalm rfl (by kernel_rfl) (by kernel_rfl) (by kernel_rfl) ?_)
          all_goals (first | refine sg_take 6 hcalm rfl (by kernel_rfl) (by kernel_rfl) (by kernel_rfl) (h := runop_load_rd k (K + N + i) (.int .u8 x) hr hm1 rfl) ?_ | refine sg_take 6 hcalm rfl (by kernel_rfl) (by kernel_rfl) (by kernel_rfl) ?_)
          all_goals (first | refine sg_take 7 hcalm rfl (by kernel_rfl) (by kernel_rfl) (by kernel_rfl) ?_)
          all_goals (first | refine sg_take 8 hcalm rfl (by kernel_rfl) (by kernel_rfl) (by kernel_rfl) ?_)
          all_goals (first | refine sg_take 9 hcalm rfl (by kernel_rfl) (by kernel_rfl) (by kernel_rfl) (h := runop_idx i (by omega)) ?_ | refine sg_take 9 hcalm rfl (by kernel_rfl) (by kernel_rfl) (by kernel_rfl) ?_)
          all_goals (first | refine sg_take 10 hcalm rfl (by kernel_rfl) (by kernel_rfl) (by kernel_rfl) (h := runop_load_rd b4 i (.int .u8 y) hrs hm2 (by omega)) ?_ | refine sg_take 10 hcalm rfl (by kernel_rfl) (by kernel_rfl) (by kernel_rfl) ?_)
          all_goals (first | refine sg_take 11 hcalm rfl (by kernel_rfl) (by kernel_rfl) (by kernel_rfl) ?_)
          all_goals (refine sg_done (by kernel_rfl) rfl ?_)
          repeat' (first | with_reducible (first | refine sw_in (by omega) ?_ | refine sw_op ?_ | refine sw_op_ ?_) | with_reducible (first | refine sw_nil ?_ | refine sq_then ?_ | refine sc_seq ?_ | refine sc_region ?_ | refine sw_guard_skip ?_ | refine sw_guard_skip_ ?_ | refine sw_guard_run ?_ | refine sc_cond_true ?_ | refine sc_cond_false ?_ | refine sc_ret ?_ | refine sq_then_ret ?_ | refine sc_skip ?_ | refine sc_block ?_ | refine sq_block ?_ | refine sq_block_ret ?_ | refine sc_exit ?_ | refine sq_then_exit ?_ | refine sq_block_exit ?_ | refine sq_block_past ?_ | refine sq_round_ret ?_ | refine sq_round_exit ?_) | (with_reducible refine sc_cond (fun h => ?_) (fun h => ?_)) <;> (try (exfalso; first | contradiction | omega | exact h Iff.rfl)) | fail)
          · have hne : adler out ≠ ofBE ((bs.drop (K + N)).take 4) := fun h9 => by
              have := hsum.2 h9 i (by omega)
              rw [hri, hsi] at this
              injection this with this
              omega
            rw [if_pos hne]
            refine sq_ret3 Try.results71 ?_
            refine ⟨_, .inl ⟨by decide, rfl, rfl⟩, ?_⟩
            repeat' (first | with_reducible exact Ent.refl _ | with_reducible refine Ent.take_eq ?_ ?_ | rfl | with_reducible refine Ent.trans (Ent.drop _ _) ?_)
          · have hxy : x = y := by omega
            subst hxy
            refine sq_round ⟨i + 1, by omega, fun j hj => ?_⟩ ?_ ?_ ?_
            · rcases Nat.lt_succ_iff_lt_or_eq.1 hj with h9 | rfl
              · exact hz j h9
              · rw [hri, hsi]
            · show 4 - (i + 1) < 4 - i
              omega
            · repeat' (first | exact says_nil | refine says_cons rfl ?_ | refine says_cons (by simp) ?_)
            · repeat' (first | with_reducible exact Ent.refl _ | with_reducible refine Ent.take_eq ?_ ?_ | rfl | with_reducible refine Ent.trans (Ent.drop _ _) ?_)
        · have hi4 : i = 4 := by omega
          subst hi4
          have heq := hsum.1 hz
          rw [if_neg (by simpa using heq)]
          repeat' (first | with_reducible (first | refine sw_op ?_ | refine sw_op_ ?_) | with_reducible (first | refine sw_nil ?_ | refine sq_then ?_ | refine sc_seq ?_ | refine sc_region ?_ | refine sw_guard_skip ?_ | refine sw_guard_skip_ ?_ | refine sw_guard_run ?_ | refine sc_cond_true ?_ | refine sc_cond_false ?_ | refine sc_ret ?_ | refine sq_then_ret ?_ | refine sc_skip ?_ | refine sc_block ?_ | refine sq_block ?_ | refine sq_block_ret ?_ | refine sc_exit ?_ | refine sq_then_exit ?_ | refine sq_block_exit ?_ | refine sq_block_past ?_ | refine sq_round_ret ?_ | refine sq_round_exit ?_) | fail)
          refine sq_ret3 Try.results71 ?_
          refine ⟨_, .inr ⟨rfl, b3, pts b3 (.cells (out.map (Value.int .u8) ++ t3).toArray 5 (0, 0)), _, rfl, RdB.own, rfl⟩, ?_⟩; repeat' (first | with_reducible exact Ent.refl _ | with_reducible refine Ent.take_eq ?_ ?_ | rfl | with_reducible refine Ent.trans (Ent.drop _ _) ?_)
  · rw [if_pos he]
    repeat' (first | with_reducible (first | refine sw_op ?_ | refine sw_op_ ?_) | with_reducible (first | refine sw_nil ?_ | refine sq_then ?_ | refine sc_seq ?_ | refine sc_region ?_ | refine sw_guard_skip ?_ | refine sw_guard_skip_ ?_ | refine sw_guard_run ?_ | refine sc_cond_true ?_ | refine sc_cond_false ?_ | refine sc_ret ?_ | refine sq_then_ret ?_ | refine sc_skip ?_ | refine sc_block ?_ | refine sq_block ?_ | refine sq_block_ret ?_ | refine sc_exit ?_ | refine sq_then_exit ?_ | refine sq_block_exit ?_ | refine sq_block_past ?_ | refine sq_round_ret ?_ | refine sq_round_exit ?_) | (with_reducible refine sc_cond (fun h => ?_) (fun h => ?_)) <;> (try (exfalso; first | contradiction | omega | exact h Iff.rfl)) | fail)
    refine sq_ret3 Try.results71 ?_
    exact ⟨_, .inl ⟨he, rfl, rfl⟩, Ent.refl _⟩
end Go.Gsl
