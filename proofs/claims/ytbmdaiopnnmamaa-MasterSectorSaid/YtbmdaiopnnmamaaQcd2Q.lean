/- The document's codec: an int's bytes, a list's. -/
import Derived.Test.YtbmdaiopnnmamaaQcd1Q
namespace Go.Gsl
set_option linter.unusedVariables false
open Go.Proofs

theorem width_pos {n : Int} (h : 100 < n) : width n = 1 + bo n := by unfold width; rw [if_pos h]
theorem width_neg {n : Int} (h : n < -100) : width n = 1 + bo (-n - 1) := by unfold width; rw [if_neg (by omega), if_pos h]
theorem intB_small {n : Int} (h : -100 ≤ n ∧ n ≤ 100) : intB n = [n + 108] := by
  have h1 : width n = 1 := by unfold width; rw [if_neg (by omega), if_neg (by omega)]
  unfold intB
  rw [if_pos h1]
theorem intB_pos {n : Int} (h : 100 < n) : intB n = (208 + (bo n : Int)) :: beB (bo n) n := by
  have hb := bo_in n
  unfold intB
  rw [width_pos h, if_neg (by omega), if_neg (by omega), show 1 + bo n - 1 = bo n by omega]
  congr 1
  omega
theorem intB_neg {n : Int} (h : n < -100) : intB n = (8 - (bo (-n - 1) : Int)) :: (beB (bo (-n - 1)) (-n - 1)).map (255 - ·) := by
  have hb := bo_in (-n - 1)
  unfold intB
  rw [width_neg h, if_neg (by omega), if_pos (by omega), show 1 + bo (-n - 1) - 1 = bo (-n - 1) by omega]
  congr 1
  omega

set_option maxHeartbeats 1000000 in
theorem q1Int_ok (k : Nat) (r : HProp) (n : Int) (hn : I64 n) : Spec Try.prog 110 [.int .i64 n] [k] [r]
    fun F w Rs' => ∃ b t, w = .slice (some ⟨b, 0, none⟩) (intB n).length ((intB n).length + t.length) ∧ Rs' = (b, pts b (.cells ((intB n).map (Value.int .u8) ++ t).toArray 5 (0, 0))) :: (k, r) :: F := by
  unfold I64 at hn
  refine spec_of Try.func110 rfl Try.ntmps110 rfl ?_
  intro w0 F
  repeat' (first | with_reducible (first | refine sw_in (by omega) ?_ | refine sw_op ?_ | refine sw_op_ ?_) | with_reducible refine sw_guard_skip_u ?_ | with_reducible (first | refine sw_nil ?_ | refine sq_then ?_ | refine sc_seq ?_ | refine sc_region ?_ | refine sw_guard_skip ?_ | refine sw_guard_skip_ ?_ | refine sw_guard_run ?_ | refine sc_cond_true ?_ | refine sc_cond_false ?_ | refine sc_ret ?_ | refine sq_then_ret ?_ | refine sc_skip ?_ | refine sc_block ?_ | refine sq_block ?_ | refine sq_block_ret ?_ | refine sc_exit ?_ | refine sq_then_exit ?_ | refine sq_block_exit ?_ | refine sq_block_past ?_ | refine sq_round_ret ?_ | refine sq_round_exit ?_) | (with_reducible refine sw_guard_split (fun h => ?_) (fun h => ?_)) <;> (try (exfalso; first | contradiction | omega | exact h Iff.rfl)) | (with_reducible refine sc_cond (fun h => ?_) (fun h => ?_)) <;> (try (exfalso; first | contradiction | omega | exact h Iff.rfl)) | (with_reducible refine sw_pick (fun h => ?_) (fun h => ?_)) <;> (try (exfalso; first | contradiction | omega | exact h Iff.rfl)) | fail)
  · refine sw_buildSlice [.int .u8 (n + 108)] (by omega) rfl fun b1 => ?_
    repeat' (first | with_reducible (first | refine sw_op ?_ | refine sw_op_ ?_) | with_reducible (first | refine sw_nil ?_ | refine sq_then ?_ | refine sc_seq ?_ | refine sc_region ?_ | refine sw_guard_skip ?_ | refine sw_guard_skip_ ?_ | refine sw_guard_run ?_ | refine sc_cond_true ?_ | refine sc_cond_false ?_ | refine sc_ret ?_ | refine sq_then_ret ?_ | refine sc_skip ?_ | refine sc_block ?_ | refine sq_block ?_ | refine sq_block_ret ?_ | refine sc_exit ?_ | refine sq_then_exit ?_ | refine sq_block_exit ?_ | refine sq_block_past ?_ | refine sq_round_ret ?_ | refine sq_round_exit ?_) | fail)
    rw [intB_small (by omega)]
    refine sq_ret1 Try.results110 ?_
    exact ⟨_, ⟨b1, [], rfl, rfl⟩, Ent.refl _⟩
  · refine sw_call (q1Digits_ok k r n (by omega)) ?_
    rintro _ _ ⟨b1, t1, rfl, rfl⟩
    have hb := bo_in n
    have hl := beB_len (bo n) n
    rw [hl]
    repeat' (first | with_reducible (first | refine sw_in (by omega) ?_ | refine sw_op ?_ | refine sw_op_ ?_) | with_reducible (first | refine sw_nil ?_ | refine sq_then ?_ | refine sc_seq ?_ | refine sc_region ?_ | refine sw_guard_skip ?_ | refine sw_guard_skip_ ?_ | refine sw_guard_run ?_ | refine sc_cond_true ?_ | refine sc_cond_false ?_ | refine sc_ret ?_ | refine sq_then_ret ?_ | refine sc_skip ?_ | refine sc_block ?_ | refine sq_block ?_ | refine sq_block_ret ?_ | refine sc_exit ?_ | refine sq_then_exit ?_ | refine sq_block_exit ?_ | refine sq_block_past ?_ | refine sq_round_ret ?_ | refine sq_round_exit ?_) | fail)
    refine sw_buildSlice [.int .u8 (208 + (bo n : Int))] (by omega) rfl fun b2 => ?_
    repeat' (first | with_reducible (first | refine sw_op ?_ | refine sw_op_ ?_) | with_reducible (first | refine sw_nil ?_ | refine sq_then ?_ | refine sc_seq ?_ | refine sc_region ?_ | refine sw_guard_skip ?_ | refine sw_guard_skip_ ?_ | refine sw_guard_run ?_ | refine sc_cond_true ?_ | refine sc_cond_false ?_ | refine sc_ret ?_ | refine sq_then_ret ?_ | refine sc_skip ?_ | refine sc_block ?_ | refine sq_block ?_ | refine sq_block_ret ?_ | refine sc_exit ?_ | refine sq_then_exit ?_ | refine sq_block_exit ?_ | refine sq_block_past ?_ | refine sq_round_ret ?_ | refine sq_round_exit ?_) | fail)
    refine sw_append (m := 1) (c := 1) (cs := [Value.int .u8 (208 + (bo n : Int))]) (src := (beB (bo n) n).map (Value.int .u8)) (src_pts (b := b1)) (one_ints _ _) ⟨by omega, rfl, by rw [List.length_map, hl], by omega, by omega⟩ fun b3 t3 => ?_
    repeat' (first | with_reducible (first | refine sw_op ?_ | refine sw_op_ ?_) | with_reducible (first | refine sw_nil ?_ | refine sq_then ?_ | refine sc_seq ?_ | refine sc_region ?_ | refine sw_guard_skip ?_ | refine sw_guard_skip_ ?_ | refine sw_guard_run ?_ | refine sc_cond_true ?_ | refine sc_cond_false ?_ | refine sc_ret ?_ | refine sq_then_ret ?_ | refine sc_skip ?_ | refine sc_block ?_ | refine sq_block ?_ | refine sq_block_ret ?_ | refine sc_exit ?_ | refine sq_then_exit ?_ | refine sq_block_exit ?_ | refine sq_block_past ?_ | refine sq_round_ret ?_ | refine sq_round_exit ?_) | fail)
    rw [intB_pos (by omega)]
    refine sq_ret1 Try.results110 ?_
    refine ⟨_, ⟨b3, t3, ?_, rfl⟩, ?_⟩
    · rw [List.length_cons, hl, Nat.add_comm 1 (bo n)]
    · repeat' (first | with_reducible exact Ent.refl _ | with_reducible refine Ent.take_eq ?_ ?_ | rfl | with_reducible refine Ent.trans (Ent.drop _ _) ?_)
  · rw [show 0 - (n + 1) = -n - 1 by omega]
    refine sw_call (q1Digits_ok k r (-n - 1) (by omega)) ?_
    rintro _ _ ⟨b1, t1, rfl, rfl⟩
    have hb := bo_in (-n - 1)
    have hl := beB_len (bo (-n - 1)) (-n - 1)
    have hdb := beB_byt (bo (-n - 1)) (-n - 1)
    rw [intB_neg (by omega)]
    generalize beB (bo (-n - 1)) (-n - 1) = d at *
    rw [hl]
    generalize bo (-n - 1) = L at *
    repeat' (first | with_reducible (first | refine sw_in (by omega) ?_ | refine sw_op ?_ | refine sw_op_ ?_) | with_reducible (first | refine sw_nil ?_ | refine sq_then ?_ | refine sc_seq ?_ | refine sc_region ?_ | refine sw_guard_skip ?_ | refine sw_guard_skip_ ?_ | refine sw_guard_run ?_ | refine sc_cond_true ?_ | refine sc_cond_false ?_ | refine sc_ret ?_ | refine sq_then_ret ?_ | refine sc_skip ?_ | refine sc_block ?_ | refine sq_block ?_ | refine sq_block_ret ?_ | refine sc_exit ?_ | refine sq_then_exit ?_ | refine sq_block_exit ?_ | refine sq_block_past ?_ | refine sq_round_ret ?_ | refine sq_round_exit ?_) | fail)
    refine sw_buildSlice [.int .u8 (8 - (L : Int))] (by omega) rfl fun b2 => ?_
    repeat' (first | with_reducible (first | refine sw_op ?_ | refine sw_op_ ?_) | with_reducible (first | refine sw_nil ?_ | refine sq_then ?_ | refine sc_seq ?_ | refine sc_region ?_ | refine sw_guard_skip ?_ | refine sw_guard_skip_ ?_ | refine sw_guard_run ?_ | refine sc_cond_true ?_ | refine sc_cond_false ?_ | refine sc_ret ?_ | refine sq_then_ret ?_ | refine sc_skip ?_ | refine sc_block ?_ | refine sq_block ?_ | refine sq_block_ret ?_ | refine sc_exit ?_ | refine sq_then_exit ?_ | refine sq_block_exit ?_ | refine sq_block_past ?_ | refine sq_round_ret ?_ | refine sq_round_exit ?_) | fail)
    refine sc_loop (α := { x : Nat × Nat × List Value // x.1 ≤ L }) (fun x => [(5, .slice (some ⟨b1, 0, none⟩) L (L + t1.length)), (6, .slice (some ⟨x.1.2.1, 0, none⟩) (x.1.1 + 1) (x.1.1 + 1 + x.1.2.2.length)), (7, .int .i64 (x.1.1 : Int))])
      (fun x => (x.1.2.1, pts x.1.2.1 (.cells (((8 - (L : Int)) :: (d.take x.1.1).map (255 - ·)).map (Value.int .u8) ++ x.1.2.2).toArray 5 (0, 0))) :: (b1, pts b1 (.cells (d.map (Value.int .u8) ++ t1).toArray 5 (0, 0))) :: (k, r) :: F) (fun x => L - x.1.1) ⟨(0, b2, []), Nat.zero_le _⟩ ?_ ?_ ?_
    · repeat' (first | exact says_nil | refine says_cons rfl ?_ | refine says_cons (by simp) ?_)
    · repeat' (first | with_reducible exact Ent.refl _ | with_reducible refine Ent.take_eq ?_ ?_ | rfl | with_reducible refine Ent.trans (Ent.drop _ _) ?_)
    rintro ⟨⟨i, b3, t3⟩, hi⟩ e
    (try simp only at hi)
    simp only [List.cons_append, List.nil_append]
    have hlen : (((8 - (L : Int)) :: (d.take i).map (255 - ·)).map (Value.int .u8)).length = i + 1 := by
      rw [List.length_map, List.length_cons, List.length_map, List.length_take]; omega
    repeat' (first | with_reducible (first | refine sw_in (by omega) ?_ | refine sw_op ?_ | refine sw_op_ ?_) | with_reducible (first | refine sw_nil ?_ | refine sq_then ?_ | refine sc_seq ?_ | refine sc_region ?_ | refine sw_guard_skip ?_ | refine sw_guard_skip_ ?_ | refine sw_guard_run ?_ | refine sc_cond_true ?_ | refine sc_cond_false ?_ | refine sc_ret ?_ | refine sq_then_ret ?_ | refine sc_skip ?_ | refine sc_block ?_ | refine sq_block ?_ | refine sq_block_ret ?_ | refine sc_exit ?_ | refine sq_then_exit ?_ | refine sq_block_exit ?_ | refine sq_block_past ?_ | refine sq_round_ret ?_ | refine sq_round_exit ?_) | (with_reducible refine sc_cond (fun h => ?_) (fun h => ?_)) <;> (try (exfalso; first | contradiction | omega | exact h Iff.rfl)) | fail)
    · have hi2 : i < d.length := by omega
      have hri : d[i]? = some d[i] := List.getElem?_eq_getElem hi2
      have hdi := hdb d[i] (List.getElem_mem hi2)
      have hsn : (d.take (i + 1)).map (255 - ·) = (d.take i).map (255 - ·) ++ [255 - d[i]] := by
        rw [List.take_add_one, hri, Option.toList_some, List.map_append, List.map_singleton]
      refine sw_idx i (by omega) ?_
      refine sw_loadAt (.int .u8 d[i]) (by rw [List.getElem?_append_left (by rw [List.length_map]; exact hi2), List.getElem?_map, hri]; rfl) ?_
      generalize d[i] = x at *
      repeat' (first | with_reducible (first | refine sw_in (by omega) ?_ | refine sw_op ?_ | refine sw_op_ ?_) | with_reducible (first | refine sw_nil ?_ | refine sq_then ?_ | refine sc_seq ?_ | refine sc_region ?_ | refine sw_guard_skip ?_ | refine sw_guard_skip_ ?_ | refine sw_guard_run ?_ | refine sc_cond_true ?_ | refine sc_cond_false ?_ | refine sc_ret ?_ | refine sq_then_ret ?_ | refine sc_skip ?_ | refine sc_block ?_ | refine sq_block ?_ | refine sq_block_ret ?_ | refine sc_exit ?_ | refine sq_then_exit ?_ | refine sq_block_exit ?_ | refine sq_block_past ?_ | refine sq_round_ret ?_ | refine sq_round_exit ?_) | (with_reducible refine sc_cond (fun h => ?_) (fun h => ?_)) <;> (try (exfalso; first | contradiction | omega | exact h Iff.rfl)) | fail)
      refine sw_buildSlice [.int .u8 (255 - x)] (by omega) rfl fun b4 => ?_
      refine sw_append (m := i + 1) (src := [Value.int .u8 (255 - x)]) src_pts0 (by simp [Value.oneCell']) ⟨by omega, by rw [List.length_append, hlen], rfl, by simp only [List.length_singleton]; omega, by simp only [List.length_singleton]; omega⟩ fun b5 t5 => ?_
      rw [List.take_left' hlen]
      repeat' (first | with_reducible (first | refine sw_in (by omega) ?_ | refine sw_op ?_ | refine sw_op_ ?_) | with_reducible (first | refine sw_nil ?_ | refine sq_then ?_ | refine sc_seq ?_ | refine sc_region ?_ | refine sw_guard_skip ?_ | refine sw_guard_skip_ ?_ | refine sw_guard_run ?_ | refine sc_cond_true ?_ | refine sc_cond_false ?_ | refine sc_ret ?_ | refine sq_then_ret ?_ | refine sc_skip ?_ | refine sc_block ?_ | refine sq_block ?_ | refine sq_block_ret ?_ | refine sc_exit ?_ | refine sq_then_exit ?_ | refine sq_block_exit ?_ | refine sq_block_past ?_ | refine sq_round_ret ?_ | refine sq_round_exit ?_) | (with_reducible refine sc_cond (fun h => ?_) (fun h => ?_)) <;> (try (exfalso; first | contradiction | omega | exact h Iff.rfl)) | fail)
      refine sq_round ⟨(i + 1, b5, t5), by omega⟩ ?_ ?_ ?_
      · show L - (i + 1) < L - i
        omega
      · repeat' (first | exact says_nil | refine says_cons rfl ?_ | refine says_cons (by simp) ?_)
      · show Ent _ ((b5, pts b5 (.cells (((8 - (L : Int)) :: (d.take (i + 1)).map (255 - ·)).map (Value.int .u8) ++ t5).toArray 5 (0, 0))) :: (b1, pts b1 (.cells (d.map (Value.int .u8) ++ t1).toArray 5 (0, 0))) :: (k, r) :: F)
        rw [hsn, ← List.cons_append, List.map_append]
        repeat' (first | with_reducible exact Ent.refl _ | with_reducible refine Ent.take_eq ?_ ?_ | rfl | with_reducible refine Ent.trans (Ent.drop _ _) ?_)
    · have hiL : i = d.length := by omega
      subst hiL
      rw [List.take_length] at hlen ⊢
      repeat' (first | with_reducible (first | refine sw_op ?_ | refine sw_op_ ?_) | with_reducible (first | refine sw_nil ?_ | refine sq_then ?_ | refine sc_seq ?_ | refine sc_region ?_ | refine sw_guard_skip ?_ | refine sw_guard_skip_ ?_ | refine sw_guard_run ?_ | refine sc_cond_true ?_ | refine sc_cond_false ?_ | refine sc_ret ?_ | refine sq_then_ret ?_ | refine sc_skip ?_ | refine sc_block ?_ | refine sq_block ?_ | refine sq_block_ret ?_ | refine sc_exit ?_ | refine sq_then_exit ?_ | refine sq_block_exit ?_ | refine sq_block_past ?_ | refine sq_round_ret ?_ | refine sq_round_exit ?_) | fail)
      refine sq_ret1 Try.results110 ?_
      refine ⟨_, ⟨b3, t3, ?_, rfl⟩, ?_⟩
      · rw [List.length_cons, List.length_map]
      · repeat' (first | with_reducible exact Ent.refl _ | with_reducible refine Ent.take_eq ?_ ?_ | rfl | with_reducible refine Ent.trans (Ent.drop _ _) ?_)

theorem q1Bytes_ok (k : Nat) (r : HProp) (v : Value) (bs : List Int) (hv : RdB r v bs) (hl : bs.length ≤ 70368744177664) : Spec Try.prog 97 [v] [k] [r]
    fun F w Rs' => ∃ b t, w = .slice (some ⟨b, 0, none⟩) (intB bs.length ++ bs).length ((intB bs.length ++ bs).length + t.length) ∧ Rs' = (b, pts b (.cells ((intB bs.length ++ bs).map (Value.int .u8) ++ t).toArray 5 (0, 0))) :: (k, r) :: F := by
  refine spec_of Try.func97 rfl Try.ntmps97 rfl ?_
  intro w0 F
  obtain ⟨a, c, rfl, hsome, hc, hr⟩ := hv.gen
  have hw := width_in bs.length
  have hil := intB_len bs.length
  repeat' (first | with_reducible (first | refine sw_op ?_ | refine sw_op_ ?_) | with_reducible (first | refine sw_nil ?_ | refine sq_then ?_ | refine sc_seq ?_ | refine sc_region ?_ | refine sw_guard_skip ?_ | refine sw_guard_skip_ ?_ | refine sw_guard_run ?_ | refine sc_cond_true ?_ | refine sc_cond_false ?_ | refine sc_ret ?_ | refine sq_then_ret ?_ | refine sc_skip ?_ | refine sc_block ?_ | refine sq_block ?_ | refine sq_block_ret ?_ | refine sc_exit ?_ | refine sq_then_exit ?_ | refine sq_block_exit ?_ | refine sq_block_past ?_ | refine sq_round_ret ?_ | refine sq_round_exit ?_) | fail)
  refine sw_call (q1Int_ok k r bs.length (by unfold I64; omega)) ?_
  rintro _ _ ⟨b2, t2, rfl, rfl⟩
  repeat' (first | with_reducible (first | refine sw_op ?_ | refine sw_op_ ?_) | with_reducible (first | refine sw_nil ?_ | refine sq_then ?_ | refine sc_seq ?_ | refine sc_region ?_ | refine sw_guard_skip ?_ | refine sw_guard_skip_ ?_ | refine sw_guard_run ?_ | refine sc_cond_true ?_ | refine sc_cond_false ?_ | refine sc_ret ?_ | refine sq_then_ret ?_ | refine sc_skip ?_ | refine sc_block ?_ | refine sq_block ?_ | refine sq_block_ret ?_ | refine sc_exit ?_ | refine sq_then_exit ?_ | refine sq_block_exit ?_ | refine sq_block_past ?_ | refine sq_round_ret ?_ | refine sq_round_exit ?_) | fail)
  refine sw_append (src := bs.map (Value.int .u8)) (fun w hw => hr.sat (k := k) hw) (one_ints _ _) ⟨by omega, by rw [List.length_append, List.length_map], by rw [List.length_map], by omega, by omega⟩ fun b3 t3 => ?_
  rw [List.take_left' (by rw [List.length_map])]
  repeat' (first | with_reducible (first | refine sw_op ?_ | refine sw_op_ ?_) | with_reducible (first | refine sw_nil ?_ | refine sq_then ?_ | refine sc_seq ?_ | refine sc_region ?_ | refine sw_guard_skip ?_ | refine sw_guard_skip_ ?_ | refine sw_guard_run ?_ | refine sc_cond_true ?_ | refine sc_cond_false ?_ | refine sc_ret ?_ | refine sq_then_ret ?_ | refine sc_skip ?_ | refine sc_block ?_ | refine sq_block ?_ | refine sq_block_ret ?_ | refine sc_exit ?_ | refine sq_then_exit ?_ | refine sq_block_exit ?_ | refine sq_block_past ?_ | refine sq_round_ret ?_ | refine sq_round_exit ?_) | fail)
  refine sq_ret1 Try.results97 ?_
  refine ⟨_, ⟨b3, t3, ?_, rfl⟩, ?_⟩
  · rw [List.length_append]
  · rw [List.map_append]
    repeat' (first | with_reducible exact Ent.refl _ | with_reducible refine Ent.take_eq ?_ ?_ | rfl | with_reducible refine Ent.trans (Ent.drop _ _) ?_)

theorem q1Tail_ok (s : Int) (hs : 0 ≤ s ∧ s < 4294967296) : Spec Try.prog 98 [.int .u32 s] [] [] fun F w Rs' => ∃ b, w = .slice (some ⟨b, 0, none⟩) 4 4 ∧ Rs' = (b, pts b (.cells ((be4 s).map (Value.int .u8)).toArray 5 (0, 0))) :: F := by
  refine spec_of Try.func98 rfl Try.ntmps98 rfl ?_
  intro w0 F
  repeat' (first | with_reducible (first | refine sw_op ?_ | refine sw_op_ ?_) | with_reducible (first | refine sw_nil ?_ | refine sq_then ?_ | refine sc_seq ?_ | refine sc_region ?_ | refine sw_guard_skip ?_ | refine sw_guard_skip_ ?_ | refine sw_guard_run ?_ | refine sc_cond_true ?_ | refine sc_cond_false ?_ | refine sc_ret ?_ | refine sq_then_ret ?_ | refine sc_skip ?_ | refine sc_block ?_ | refine sq_block ?_ | refine sq_block_ret ?_ | refine sc_exit ?_ | refine sq_then_exit ?_ | refine sq_block_exit ?_ | refine sq_block_past ?_ | refine sq_round_ret ?_ | refine sq_round_exit ?_) | fail)
  refine sw_shrP (k := .u32) 24 16777216 ⟨rfl, by decide, by omega, rfl⟩ ?_
  repeat' (first | with_reducible (first | refine sw_op ?_ | refine sw_op_ ?_) | with_reducible (first | refine sw_nil ?_ | refine sq_then ?_ | refine sc_seq ?_ | refine sc_region ?_ | refine sw_guard_skip ?_ | refine sw_guard_skip_ ?_ | refine sw_guard_run ?_ | refine sc_cond_true ?_ | refine sc_cond_false ?_ | refine sc_ret ?_ | refine sq_then_ret ?_ | refine sc_skip ?_ | refine sc_block ?_ | refine sq_block ?_ | refine sq_block_ret ?_ | refine sc_exit ?_ | refine sq_then_exit ?_ | refine sq_block_exit ?_ | refine sq_block_past ?_ | refine sq_round_ret ?_ | refine sq_round_exit ?_) | fail)
  refine sw_shrP (k := .u32) 16 65536 ⟨rfl, by decide, by omega, rfl⟩ ?_
  repeat' (first | with_reducible (first | refine sw_op ?_ | refine sw_op_ ?_) | with_reducible (first | refine sw_nil ?_ | refine sq_then ?_ | refine sc_seq ?_ | refine sc_region ?_ | refine sw_guard_skip ?_ | refine sw_guard_skip_ ?_ | refine sw_guard_run ?_ | refine sc_cond_true ?_ | refine sc_cond_false ?_ | refine sc_ret ?_ | refine sq_then_ret ?_ | refine sc_skip ?_ | refine sc_block ?_ | refine sq_block ?_ | refine sq_block_ret ?_ | refine sc_exit ?_ | refine sq_then_exit ?_ | refine sq_block_exit ?_ | refine sq_block_past ?_ | refine sq_round_ret ?_ | refine sq_round_exit ?_) | fail)
  refine sw_shrP (k := .u32) 8 256 ⟨rfl, by decide, by omega, rfl⟩ ?_
  repeat' (first | with_reducible (first | refine sw_op ?_ | refine sw_op_ ?_) | with_reducible (first | refine sw_nil ?_ | refine sq_then ?_ | refine sc_seq ?_ | refine sc_region ?_ | refine sw_guard_skip ?_ | refine sw_guard_skip_ ?_ | refine sw_guard_run ?_ | refine sc_cond_true ?_ | refine sc_cond_false ?_ | refine sc_ret ?_ | refine sq_then_ret ?_ | refine sc_skip ?_ | refine sc_block ?_ | refine sq_block ?_ | refine sq_block_ret ?_ | refine sc_exit ?_ | refine sq_then_exit ?_ | refine sq_block_exit ?_ | refine sq_block_past ?_ | refine sq_round_ret ?_ | refine sq_round_exit ?_) | fail)
  simp only [wrap_u8_mod]
  refine sw_buildSlice ((be4 s).map (Value.int .u8)) (by omega) rfl fun b4 => ?_
  repeat' (first | with_reducible (first | refine sw_op ?_ | refine sw_op_ ?_) | with_reducible (first | refine sw_nil ?_ | refine sq_then ?_ | refine sc_seq ?_ | refine sc_region ?_ | refine sw_guard_skip ?_ | refine sw_guard_skip_ ?_ | refine sw_guard_run ?_ | refine sc_cond_true ?_ | refine sc_cond_false ?_ | refine sc_ret ?_ | refine sq_then_ret ?_ | refine sc_skip ?_ | refine sc_block ?_ | refine sq_block ?_ | refine sq_block_ret ?_ | refine sc_exit ?_ | refine sq_then_exit ?_ | refine sq_block_exit ?_ | refine sq_block_past ?_ | refine sq_round_ret ?_ | refine sq_round_exit ?_) | fail)
  refine sq_ret1 Try.results98 ?_
  exact ⟨_, ⟨b4, rfl, rfl⟩, Ent.refl _⟩

theorem q1Sum_ok (k : Nat) (r : HProp) (v : Value) (bs : List Int) (hv : RdB r v bs) (hb : Byt bs) (hl : bs.length ≤ 140737488355328) :
    Spec Try.prog 55 [v] [k] [r] fun F w Rs' => w = .int .u32 (adler bs) ∧ Rs' = (k, r) :: F := by
  refine spec_of Try.func55 rfl Try.ntmps55 rfl ?_
  intro w0 F
  obtain ⟨a, c, rfl, hsome, hc, hr⟩ := hv.gen
  repeat' (first | with_reducible (first | refine sw_op ?_ | refine sw_op_ ?_) | with_reducible (first | refine sw_nil ?_ | refine sq_then ?_ | refine sc_seq ?_ | refine sc_region ?_ | refine sw_guard_skip ?_ | refine sw_guard_skip_ ?_ | refine sw_guard_run ?_ | refine sc_cond_true ?_ | refine sc_cond_false ?_ | refine sc_ret ?_ | refine sq_then_ret ?_ | refine sc_skip ?_ | refine sc_block ?_ | refine sq_block ?_ | refine sq_block_ret ?_ | refine sc_exit ?_ | refine sq_then_exit ?_ | refine sq_block_exit ?_ | refine sq_block_past ?_ | refine sq_round_ret ?_ | refine sq_round_exit ?_) | fail)
  refine sc_loop (α := { j : Nat // j ≤ bs.length }) (fun j => [(0, .slice a bs.length c), (3, .int .u32 (adF (bs.take j.1)).1), (4, .int .u32 (adF (bs.take j.1)).2), (5, .int .i64 (j.1 : Int))])
    (fun _ => (k, r) :: F) (fun j => bs.length - j.1) ⟨0, Nat.zero_le _⟩ ?_ ?_ ?_
  · repeat' (first | exact says_nil | refine says_cons rfl ?_ | refine says_cons (by simp) ?_)
  · exact Ent.refl _
  rintro ⟨j, hj⟩ e
  (try simp only at hj)
  simp only [List.cons_append, List.nil_append]
  have hF := adF_in (bs.take j)
  repeat' (first | with_reducible (first | refine sw_in (by omega) ?_ | refine sw_op ?_ | refine sw_op_ ?_) | with_reducible (first | refine sw_nil ?_ | refine sq_then ?_ | refine sc_seq ?_ | refine sc_region ?_ | refine sw_guard_skip ?_ | refine sw_guard_skip_ ?_ | refine sw_guard_run ?_ | refine sc_cond_true ?_ | refine sc_cond_false ?_ | refine sc_ret ?_ | refine sq_then_ret ?_ | refine sc_skip ?_ | refine sc_block ?_ | refine sq_block ?_ | refine sq_block_ret ?_ | refine sc_exit ?_ | refine sq_then_exit ?_ | refine sq_block_exit ?_ | refine sq_block_past ?_ | refine sq_round_ret ?_ | refine sq_round_exit ?_) | (with_reducible refine sc_cond (fun h => ?_) (fun h => ?_)) <;> (try (exfalso; first | contradiction | omega | exact h Iff.rfl)) | fail)
  · have hj2 : j < bs.length := by omega
    obtain ⟨b2, o, rfl⟩ := hsome (by omega)
    have hrj : bs[j]? = some bs[j] := List.getElem?_eq_getElem hj2
    have hbj := hb bs[j] (List.getElem_mem hj2)
    have hsn : adF (bs.take (j + 1)) = ad (adF (bs.take j)) bs[j] := by rw [List.take_add_one, hrj, Option.toList_some, adF_snoc]
    refine sw_index (by omega) ?_
    refine sw_load_rd k j (.int .u8 bs[j]) hr (by rw [List.getElem?_map, hrj]; rfl) (by simp) ?_
    generalize bs[j] = y at *
    repeat' (first | with_reducible (first | refine sw_rem_nn (by omega) ?_ | refine sw_in (by omega) ?_ | refine sw_op ?_ | refine sw_op_ ?_) | with_reducible (first | refine sw_nil ?_ | refine sq_then ?_ | refine sc_seq ?_ | refine sc_region ?_ | refine sw_guard_skip ?_ | refine sw_guard_skip_ ?_ | refine sw_guard_run ?_ | refine sc_cond_true ?_ | refine sc_cond_false ?_ | refine sc_ret ?_ | refine sq_then_ret ?_ | refine sc_skip ?_ | refine sc_block ?_ | refine sq_block ?_ | refine sq_block_ret ?_ | refine sc_exit ?_ | refine sq_then_exit ?_ | refine sq_block_exit ?_ | refine sq_block_past ?_ | refine sq_round_ret ?_ | refine sq_round_exit ?_) | (with_reducible refine sc_cond (fun h => ?_) (fun h => ?_)) <;> (try (exfalso; first | contradiction | omega | exact h Iff.rfl)) | fail)
    refine sq_round ⟨j + 1, by omega⟩ ?_ ?_ ?_
    · show bs.length - (j + 1) < bs.length - j
      omega
    · dsimp only
      rw [hsn]
      unfold ad
      repeat' (first | exact says_nil | refine says_cons rfl ?_ | refine says_cons (by simp) ?_)
    · exact Ent.refl _
  · have hjl : j = bs.length := by omega
    subst hjl
    rw [List.take_length]
    rw [List.take_length] at hF
    repeat' (first | with_reducible (first | refine sw_in (by omega) ?_ | refine sw_op ?_ | refine sw_op_ ?_) | with_reducible (first | refine sw_nil ?_ | refine sq_then ?_ | refine sc_seq ?_ | refine sc_region ?_ | refine sw_guard_skip ?_ | refine sw_guard_skip_ ?_ | refine sw_guard_run ?_ | refine sc_cond_true ?_ | refine sc_cond_false ?_ | refine sc_ret ?_ | refine sq_then_ret ?_ | refine sc_skip ?_ | refine sc_block ?_ | refine sq_block ?_ | refine sq_block_ret ?_ | refine sc_exit ?_ | refine sq_then_exit ?_ | refine sq_block_exit ?_ | refine sq_block_past ?_ | refine sq_round_ret ?_ | refine sq_round_exit ?_) | (with_reducible refine sc_cond (fun h => ?_) (fun h => ?_)) <;> (try (exfalso; first | contradiction | omega | exact h Iff.rfl)) | fail)
    refine sq_ret1 Try.results55 ?_
    refine ⟨_, ⟨?_, rfl⟩, Ent.refl _⟩
    unfold adler
    congr 1
    omega
end Go.Gsl
