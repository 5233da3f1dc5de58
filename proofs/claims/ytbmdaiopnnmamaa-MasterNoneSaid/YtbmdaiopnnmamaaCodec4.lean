/- The codec: sums. -/
import Derived.Test.YtbmdaiopnnmamaaCodec3
namespace Go.Gsl
set_option linter.unusedVariables false
open Go.Proofs

/-- one step of a sum -/
def ad (p : Int × Int) (c : Int) : Int × Int := ((p.1 + c) % 65521, (p.2 + (p.1 + c) % 65521) % 65521)
def adF (bs : List Int) : Int × Int := bs.foldl ad (1, 0)
theorem adF_snoc (bs : List Int) (c : Int) : adF (bs ++ [c]) = ad (adF bs) c := by unfold adF; rw [List.foldl_append]; rfl
theorem ad_in (p : Int × Int) (c : Int) : (0 ≤ (ad p c).1 ∧ (ad p c).1 < 65521) ∧ 0 ≤ (ad p c).2 ∧ (ad p c).2 < 65521 := by
  unfold ad
  simp only
  omega
theorem adF_in (bs : List Int) : (0 ≤ (adF bs).1 ∧ (adF bs).1 < 65521) ∧ 0 ≤ (adF bs).2 ∧ (adF bs).2 < 65521 := by
  rcases List.eq_nil_or_concat bs with rfl | ⟨ys, c, rfl⟩
  · decide
  · rw [List.concat_eq_append, adF_snoc]; exact ad_in _ _
/-- a sum of bytes -/
def adler (bs : List Int) : Int := (adF bs).2 * 65536 + (adF bs).1
theorem adler_in (bs : List Int) : 0 ≤ adler bs ∧ adler bs < 4294967296 := by
  have := adF_in bs
  unfold adler
  omega

theorem RdB.gen {r : HProp} {v : Value} {bs : List Int} (h : RdB r v bs) : ∃ a c, v = .slice a bs.length c ∧ (0 < bs.length → ∃ b o, a = some ⟨b, o, none⟩) ∧ bs.length ≤ c ∧ Reads r a (bs.map (Value.int .u8)) := by
  cases h with
  | nil => exact ⟨none, 0, rfl, fun h => by simp at h, Nat.le_refl _, reads_nil _ _⟩
  | row b o c bs hc hr => exact ⟨_, c, rfl, fun _ => ⟨b, o, rfl⟩, hc, hr⟩

set_option maxHeartbeats 1000000 in
theorem cSum_ok (b k : Nat) (r : HProp) (v : Value) (bs : List Int) (hv : RdB r v bs) (hb : Byt bs) (hl : bs.length ≤ 140737488355328) :
    Spec Try.prog 52 [.slice (some ⟨b, 0, none⟩) 1 1] [b, k] [pts b (.cells [v].toArray 24 (0, 0)), r] fun F w Rs' => w = .int .u32 (adler bs) ∧ Rs' = (b, pts b (.cells [v].toArray 24 (0, 0))) :: (k, r) :: F := by
  refine spec_of Try.func52 rfl Try.ntmps52 rfl ?_
  intro w0 F
  obtain ⟨a, c, rfl, hsome, hc, hr⟩ := hv.gen
  repeat' (first | with_reducible (first | refine sw_op ?_ | refine sw_op_ ?_) | with_reducible (first | refine sw_nil ?_ | refine sq_then ?_ | refine sc_seq ?_ | refine sc_region ?_ | refine sw_guard_skip ?_ | refine sw_guard_skip_ ?_ | refine sw_guard_run ?_ | refine sc_cond_true ?_ | refine sc_cond_false ?_ | refine sc_ret ?_ | refine sq_then_ret ?_ | refine sc_skip ?_ | refine sc_block ?_ | refine sq_block ?_ | refine sq_block_ret ?_ | refine sc_exit ?_ | refine sq_then_exit ?_ | refine sq_block_exit ?_ | refine sq_block_past ?_ | refine sq_round_ret ?_ | refine sq_round_exit ?_) | fail)
  refine sc_loop (α := { i : Nat // i ≤ 1 }) (fun i => [(3, .int .u32 (adF (if i.1 = 0 then [] else bs)).1), (4, .int .u32 (adF (if i.1 = 0 then [] else bs)).2), (9, .slice (some ⟨b, 0, none⟩) 1 1), (10, .int .i64 1), (11, .int .i64 (i.1 : Int))])
    (fun _ => (b, pts b (.cells [Value.slice a bs.length c].toArray 24 (0, 0))) :: (k, r) :: F) (fun i => 1 - i.1) ⟨0, Nat.zero_le _⟩ ?_ ?_ ?_
  · repeat' (first | exact says_nil | refine says_cons rfl ?_ | refine says_cons (by simp) ?_)
  · exact Ent.refl _
  rintro ⟨i, hi⟩ e
  (try simp only at hi)
  simp only [List.cons_append, List.nil_append]
  repeat' (first | with_reducible (first | refine sw_in (by omega) ?_ | refine sw_op ?_ | refine sw_op_ ?_) | with_reducible (first | refine sw_nil ?_ | refine sq_then ?_ | refine sc_seq ?_ | refine sc_region ?_ | refine sw_guard_skip ?_ | refine sw_guard_skip_ ?_ | refine sw_guard_run ?_ | refine sc_cond_true ?_ | refine sc_cond_false ?_ | refine sc_ret ?_ | refine sq_then_ret ?_ | refine sc_skip ?_ | refine sc_block ?_ | refine sq_block ?_ | refine sq_block_ret ?_ | refine sc_exit ?_ | refine sq_then_exit ?_ | refine sq_block_exit ?_ | refine sq_block_past ?_ | refine sq_round_ret ?_ | refine sq_round_exit ?_) | (with_reducible refine sc_cond (fun h => ?_) (fun h => ?_)) <;> (try (exfalso; first | contradiction | omega | exact h Iff.rfl)) | fail)
  focus
    have hi0 : i = 0 := by omega
    subst hi0
    rw [if_pos rfl]
    refine sw_idx 0 (by omega) ?_
    refine sw_loadAt (.slice a bs.length c) rfl ?_
    repeat' (first | with_reducible (first | refine sw_op ?_ | refine sw_op_ ?_) | with_reducible (first | refine sw_nil ?_ | refine sq_then ?_ | refine sc_seq ?_ | refine sc_region ?_ | refine sw_guard_skip ?_ | refine sw_guard_skip_ ?_ | refine sw_guard_run ?_ | refine sc_cond_true ?_ | refine sc_cond_false ?_ | refine sc_ret ?_ | refine sq_then_ret ?_ | refine sc_skip ?_ | refine sc_block ?_ | refine sq_block ?_ | refine sq_block_ret ?_ | refine sc_exit ?_ | refine sq_then_exit ?_ | refine sq_block_exit ?_ | refine sq_block_past ?_ | refine sq_round_ret ?_ | refine sq_round_exit ?_) | fail)
    refine sc_loop (α := { j : Nat // j ≤ bs.length }) (fun j => [(3, .int .u32 (adF (bs.take j.1)).1), (4, .int .u32 (adF (bs.take j.1)).2), (9, .slice (some ⟨b, 0, none⟩) 1 1), (10, .int .i64 1), (11, .int .i64 ((0 : Nat) : Int)), (15, .slice a bs.length c), (16, .int .i64 bs.length), (17, .int .i64 (j.1 : Int))])
      (fun _ => (b, pts b (.cells [Value.slice a bs.length c].toArray 24 (0, 0))) :: (k, r) :: F) (fun j => bs.length - j.1) ⟨0, Nat.zero_le _⟩ ?_ ?_ ?_
    · repeat' (first | exact says_nil | refine says_cons rfl ?_ | refine says_cons (by simp) ?_)
    · exact Ent.refl _
    rintro ⟨j, hj⟩ e
    (try simp only at hj)
    simp only [List.cons_append, List.nil_append]
    repeat' (first | with_reducible (first | refine sw_in (by omega) ?_ | refine sw_op ?_ | refine sw_op_ ?_) | with_reducible (first | refine sw_nil ?_ | refine sq_then ?_ | refine sc_seq ?_ | refine sc_region ?_ | refine sw_guard_skip ?_ | refine sw_guard_skip_ ?_ | refine sw_guard_run ?_ | refine sc_cond_true ?_ | refine sc_cond_false ?_ | refine sc_ret ?_ | refine sq_then_ret ?_ | refine sc_skip ?_ | refine sc_block ?_ | refine sq_block ?_ | refine sq_block_ret ?_ | refine sc_exit ?_ | refine sq_then_exit ?_ | refine sq_block_exit ?_ | refine sq_block_past ?_ | refine sq_round_ret ?_ | refine sq_round_exit ?_) | (with_reducible refine sc_cond (fun h => ?_) (fun h => ?_)) <;> (try (exfalso; first | contradiction | omega | exact h Iff.rfl)) | fail)
    · have hj2 : j < bs.length := by omega
      obtain ⟨b2, o, rfl⟩ := hsome (by omega)
      have hrj : bs[j]? = some bs[j] := List.getElem?_eq_getElem hj2
      have hbj := hb bs[j] (List.getElem_mem hj2)
      have hF := adF_in (bs.take j)
      have hsn : adF (bs.take (j + 1)) = ad (adF (bs.take j)) bs[j] := by rw [List.take_add_one, hrj, Option.toList_some, adF_snoc]
      refine sw_index (by omega) ?_
      repeat' (first | with_reducible (first | refine sw_op ?_ | refine sw_op_ ?_) | with_reducible (first | refine sw_nil ?_ | refine sq_then ?_ | refine sc_seq ?_ | refine sc_region ?_ | refine sw_guard_skip ?_ | refine sw_guard_skip_ ?_ | refine sw_guard_run ?_ | refine sc_cond_true ?_ | refine sc_cond_false ?_ | refine sc_ret ?_ | refine sq_then_ret ?_ | refine sc_skip ?_ | refine sc_block ?_ | refine sq_block ?_ | refine sq_block_ret ?_ | refine sc_exit ?_ | refine sq_then_exit ?_ | refine sq_block_exit ?_ | refine sq_block_past ?_ | refine sq_round_ret ?_ | refine sq_round_exit ?_) | fail)
      refine sw_load_rd k j (.int .u8 bs[j]) hr (by rw [List.getElem?_map, hrj]; rfl) (by simp) ?_
      generalize bs[j] = y at *
      repeat' (first | with_reducible (first | refine sw_rem_nn (by omega) ?_ | refine sw_in (by omega) ?_ | refine sw_op ?_ | refine sw_op_ ?_) | with_reducible (first | refine sw_nil ?_ | refine sq_then ?_ | refine sc_seq ?_ | refine sc_region ?_ | refine sw_guard_skip ?_ | refine sw_guard_skip_ ?_ | refine sw_guard_run ?_ | refine sc_cond_true ?_ | refine sc_cond_false ?_ | refine sc_ret ?_ | refine sq_then_ret ?_ | refine sc_skip ?_ | refine sc_block ?_ | refine sq_block ?_ | refine sq_block_ret ?_ | refine sc_exit ?_ | refine sq_then_exit ?_ | refine sq_block_exit ?_ | refine sq_block_past ?_ | refine sq_round_ret ?_ | refine sq_round_exit ?_) | (with_reducible refine sc_cond (fun h => ?_) (fun h => ?_)) <;> (try (exfalso; first | contradiction | omega | exact h Iff.rfl)) | fail)
      refine sq_round ⟨j + 1, by omega⟩ ?_ ?_ ?_
      · show bs.length - (j + 1) < bs.length - j
        omega
      · dsimp only
        rw [hsn]
        unfold ad
        repeat' (first | exact says_nil | refine says_cons rfl ?_ | refine says_cons (by simp) ?_)
      · exact Ent.refl _
    · have hjl : j = bs.length := by omega
      subst hjl
      rw [List.take_length]
      repeat' (first | with_reducible (first | refine sw_in (by omega) ?_ | refine sw_op ?_ | refine sw_op_ ?_) | with_reducible (first | refine sw_nil ?_ | refine sq_then ?_ | refine sc_seq ?_ | refine sc_region ?_ | refine sw_guard_skip ?_ | refine sw_guard_skip_ ?_ | refine sw_guard_run ?_ | refine sc_cond_true ?_ | refine sc_cond_false ?_ | refine sc_ret ?_ | refine sq_then_ret ?_ | refine sc_skip ?_ | refine sc_block ?_ | refine sq_block ?_ | refine sq_block_ret ?_ | refine sc_exit ?_ | refine sq_then_exit ?_ | refine sq_block_exit ?_ | refine sq_block_past ?_ | refine sq_round_ret ?_ | refine sq_round_exit ?_) | fail)
      refine sq_round ⟨1, Nat.le_refl _⟩ ?_ ?_ ?_
      · show 1 - 1 < 1 - 0
        omega
      · repeat' (first | exact says_nil | refine says_cons rfl ?_ | refine says_cons (by simp) ?_)
      · exact Ent.refl _
  have hi1 : i = 1 := by omega
  subst hi1
  rw [if_neg (by omega)]
  have hF := adF_in bs
  refine sw_shlP (k := .u32) 16 65536 ⟨rfl, by decide, rfl⟩ (by omega) ?_
  repeat' (first | with_reducible (first | refine sw_op ?_ | refine sw_op_ ?_) | with_reducible (first | refine sw_nil ?_ | refine sq_then ?_ | refine sc_seq ?_ | refine sc_region ?_ | refine sw_guard_skip ?_ | refine sw_guard_skip_ ?_ | refine sw_guard_run ?_ | refine sc_cond_true ?_ | refine sc_cond_false ?_ | refine sc_ret ?_ | refine sq_then_ret ?_ | refine sc_skip ?_ | refine sc_block ?_ | refine sq_block ?_ | refine sq_block_ret ?_ | refine sc_exit ?_ | refine sq_then_exit ?_ | refine sq_block_exit ?_ | refine sq_block_past ?_ | refine sq_round_ret ?_ | refine sq_round_exit ?_) | fail)
  rw [ior_u32_16 (by omega) (by omega) (by omega)]
  refine sq_ret1 Try.results52 ?_
  exact ⟨_, ⟨rfl, rfl⟩, Ent.refl _⟩
end Go.Gsl
