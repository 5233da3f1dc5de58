/- The codec: frames. -/
import Derived.Test.YtbmdaiopnnmamaaCodec4
import Derived.Test.YtbmdaiopnnmamaaDisk2
namespace Go.Gsl
set_option linter.unusedVariables false
open Go.Proofs

/-- a sum's four bytes -/
def be4 (s : Int) : List Int := [s / 16777216 % 256, s / 65536 % 256, s / 256 % 256, s % 256]
def frame (bs : List Int) : List Int := intB bs.length ++ bs ++ be4 (adler bs)
theorem be4_byt (s : Int) : Byt (be4 s) := by
  intro x hx
  unfold be4 at hx
  simp only [List.mem_cons, List.not_mem_nil, or_false] at hx
  omega
theorem Byt.app {a b : List Int} (ha : Byt a) (hb : Byt b) : Byt (a ++ b) := fun x hx => by
  rcases List.mem_append.1 hx with h | h
  · exact ha x h
  · exact hb x h
theorem frame_byt {bs : List Int} (hb : Byt bs) : Byt (frame bs) := ((intB_byt _).app hb).app (be4_byt _)
theorem frame_len (bs : List Int) : (frame bs).length = width bs.length + bs.length + 4 := by
  unfold frame be4; simp [intB_len]; omega

set_option maxHeartbeats 1000000 in
theorem cFrame_ok (k : Nat) (r : HProp) (v : Value) (bs : List Int) (hv : RdB r v bs) (hb : Byt bs) (hl : bs.length ≤ 70368744177664) :
    Spec Try.prog 62 [v] [k] [r] fun F w Rs' => (1048576 < bs.length ∧ w = .tuple #[.slice none 0 0, .int .i64 3] ∧ Rs' = (k, r) :: F) ∨
      (bs.length ≤ 1048576 ∧ ∃ b t, w = .tuple #[.slice (some ⟨b, 0, none⟩) (frame bs).length ((frame bs).length + t.length), .int .i64 0] ∧ Rs' = (b, pts b (.cells ((frame bs).map (Value.int .u8) ++ t).toArray 5 (0, 0))) :: (k, r) :: F) := by
  refine spec_of Try.func62 rfl Try.ntmps62 rfl ?_
  intro w0 F
  obtain ⟨a, c, rfl, hsome, hc, hr⟩ := hv.gen
  repeat' (first | with_reducible (first | refine sw_op ?_ | refine sw_op_ ?_) | with_reducible (first | refine sw_nil ?_ | refine sq_then ?_ | refine sc_seq ?_ | refine sc_region ?_ | refine sw_guard_skip ?_ | refine sw_guard_skip_ ?_ | refine sw_guard_run ?_ | refine sc_cond_true ?_ | refine sc_cond_false ?_ | refine sc_ret ?_ | refine sq_then_ret ?_ | refine sc_skip ?_ | refine sc_block ?_ | refine sq_block ?_ | refine sq_block_ret ?_ | refine sc_exit ?_ | refine sq_then_exit ?_ | refine sq_block_exit ?_ | refine sq_block_past ?_ | refine sq_round_ret ?_ | refine sq_round_exit ?_) | (with_reducible refine sc_cond (fun h => ?_) (fun h => ?_)) <;> (try (exfalso; first | contradiction | omega | exact h Iff.rfl)) | fail)
  · refine sq_ret2 Try.results62 ?_
    exact ⟨_, .inl ⟨by omega, rfl, rfl⟩, Ent.refl _⟩
  · refine sw_buildSlice [.slice a bs.length c] (by omega) rfl fun b1 => ?_
    have hA := adler_in bs
    have hw := width_in bs.length
    have hil := intB_len bs.length
    repeat' (first | with_reducible (first | refine sw_op ?_ | refine sw_op_ ?_) | ((with_reducible refine sw_call (cSum_ok b1 k r _ bs hv hb (by omega)) ?_); rintro _ _ ⟨rfl, rfl⟩) | with_reducible (first | refine sw_nil ?_ | refine sq_then ?_ | refine sc_seq ?_ | refine sc_region ?_ | refine sw_guard_skip ?_ | refine sw_guard_skip_ ?_ | refine sw_guard_run ?_ | refine sc_cond_true ?_ | refine sc_cond_false ?_ | refine sc_ret ?_ | refine sq_then_ret ?_ | refine sc_skip ?_ | refine sc_block ?_ | refine sq_block ?_ | refine sq_block_ret ?_ | refine sc_exit ?_ | refine sq_then_exit ?_ | refine sq_block_exit ?_ | refine sq_block_past ?_ | refine sq_round_ret ?_ | refine sq_round_exit ?_) | fail)
    refine sw_call (cPutInt_ok k r (.slice none 0 0) [] bs.length .nil (by simp) (by omega)) ?_
    rintro _ _ ⟨b2, t2, rfl, rfl⟩
    simp only [List.nil_append]
    repeat' (first | with_reducible (first | refine sw_op ?_ | refine sw_op_ ?_) | with_reducible (first | refine sw_nil ?_ | refine sq_then ?_ | refine sc_seq ?_ | refine sc_region ?_ | refine sw_guard_skip ?_ | refine sw_guard_skip_ ?_ | refine sw_guard_run ?_ | refine sc_cond_true ?_ | refine sc_cond_false ?_ | refine sc_ret ?_ | refine sq_then_ret ?_ | refine sc_skip ?_ | refine sc_block ?_ | refine sq_block ?_ | refine sq_block_ret ?_ | refine sc_exit ?_ | refine sq_then_exit ?_ | refine sq_block_exit ?_ | refine sq_block_past ?_ | refine sq_round_ret ?_ | refine sq_round_exit ?_) | fail)
    refine sw_append (src := bs.map (Value.int .u8)) (fun w hw => hr.sat (k := k) hw) (one_ints _ _) ⟨by omega, by rw [List.length_append, List.length_map], by rw [List.length_map], by omega, by omega⟩ fun b3 t3 => ?_
    rw [List.take_left' (by rw [List.length_map])]
    repeat' (first | with_reducible (first | refine sw_op ?_ | refine sw_op_ ?_) | with_reducible (first | refine sw_nil ?_ | refine sq_then ?_ | refine sc_seq ?_ | refine sc_region ?_ | refine sw_guard_skip ?_ | refine sw_guard_skip_ ?_ | refine sw_guard_run ?_ | refine sc_cond_true ?_ | refine sc_cond_false ?_ | refine sc_ret ?_ | refine sq_then_ret ?_ | refine sc_skip ?_ | refine sc_block ?_ | refine sq_block ?_ | refine sq_block_ret ?_ | refine sc_exit ?_ | refine sq_then_exit ?_ | refine sq_block_exit ?_ | refine sq_block_past ?_ | refine sq_round_ret ?_ | refine sq_round_exit ?_) | fail)
    refine sw_shrP (k := .u32) 24 16777216 ⟨rfl, by decide, by omega, rfl⟩ ?_
    repeat' (first | with_reducible (first | refine sw_op ?_ | refine sw_op_ ?_) | with_reducible (first | refine sw_nil ?_ | refine sq_then ?_ | refine sc_seq ?_ | refine sc_region ?_ | refine sw_guard_skip ?_ | refine sw_guard_skip_ ?_ | refine sw_guard_run ?_ | refine sc_cond_true ?_ | refine sc_cond_false ?_ | refine sc_ret ?_ | refine sq_then_ret ?_ | refine sc_skip ?_ | refine sc_block ?_ | refine sq_block ?_ | refine sq_block_ret ?_ | refine sc_exit ?_ | refine sq_then_exit ?_ | refine sq_block_exit ?_ | refine sq_block_past ?_ | refine sq_round_ret ?_ | refine sq_round_exit ?_) | fail)
    refine sw_shrP (k := .u32) 16 65536 ⟨rfl, by decide, by omega, rfl⟩ ?_
    repeat' (first | with_reducible (first | refine sw_op ?_ | refine sw_op_ ?_) | with_reducible (first | refine sw_nil ?_ | refine sq_then ?_ | refine sc_seq ?_ | refine sc_region ?_ | refine sw_guard_skip ?_ | refine sw_guard_skip_ ?_ | refine sw_guard_run ?_ | refine sc_cond_true ?_ | refine sc_cond_false ?_ | refine sc_ret ?_ | refine sq_then_ret ?_ | refine sc_skip ?_ | refine sc_block ?_ | refine sq_block ?_ | refine sq_block_ret ?_ | refine sc_exit ?_ | refine sq_then_exit ?_ | refine sq_block_exit ?_ | refine sq_block_past ?_ | refine sq_round_ret ?_ | refine sq_round_exit ?_) | fail)
    refine sw_shrP (k := .u32) 8 256 ⟨rfl, by decide, by omega, rfl⟩ ?_
    repeat' (first | with_reducible (first | refine sw_op ?_ | refine sw_op_ ?_) | with_reducible (first | refine sw_nil ?_ | refine sq_then ?_ | refine sc_seq ?_ | refine sc_region ?_ | refine sw_guard_skip ?_ | refine sw_guard_skip_ ?_ | refine sw_guard_run ?_ | refine sc_cond_true ?_ | refine sc_cond_false ?_ | refine sc_ret ?_ | refine sq_then_ret ?_ | refine sc_skip ?_ | refine sc_block ?_ | refine sq_block ?_ | refine sq_block_ret ?_ | refine sc_exit ?_ | refine sq_then_exit ?_ | refine sq_block_exit ?_ | refine sq_block_past ?_ | refine sq_round_ret ?_ | refine sq_round_exit ?_) | fail)
    simp only [wrap_u8_mod]
    refine sw_buildSlice ((be4 (adler bs)).map (Value.int .u8)) (by omega) rfl fun b4 => ?_
    refine sw_append (src := (be4 (adler bs)).map (Value.int .u8)) src_pts0 (one_ints _ _) ⟨by omega, by simp only [List.length_append, List.length_map], by rw [List.length_map]; rfl, by omega, by omega⟩ fun b5 t5 => ?_
    rw [List.take_left' (by simp only [List.length_append, List.length_map])]
    repeat' (first | with_reducible (first | refine sw_op ?_ | refine sw_op_ ?_) | with_reducible (first | refine sw_nil ?_ | refine sq_then ?_ | refine sc_seq ?_ | refine sc_region ?_ | refine sw_guard_skip ?_ | refine sw_guard_skip_ ?_ | refine sw_guard_run ?_ | refine sc_cond_true ?_ | refine sc_cond_false ?_ | refine sc_ret ?_ | refine sq_then_ret ?_ | refine sc_skip ?_ | refine sc_block ?_ | refine sq_block ?_ | refine sq_block_ret ?_ | refine sc_exit ?_ | refine sq_then_exit ?_ | refine sq_block_exit ?_ | refine sq_block_past ?_ | refine sq_round_ret ?_ | refine sq_round_exit ?_) | fail)
    refine sq_ret2 Try.results62 ?_
    refine ⟨_, .inr ⟨by omega, b5, t5, ?_, rfl⟩, ?_⟩
    · rw [frame_len, hil]
    · unfold frame
      rw [List.map_append, List.map_append]
      repeat' (first | with_reducible exact Ent.refl _ | with_reducible refine Ent.take_eq ?_ ?_ | rfl | with_reducible refine Ent.trans (Ent.drop _ _) ?_)

theorem takeK_ok {k : Nat} {g : Int → Int} {neg : Bool} {r : List Int} (hg : Byt ((r.take k).map g)) (hk : k ≤ 8) (h : (takeK k g neg r).2.2 = 0) :
    (takeK k g neg r).2.1 = 1 + k ∧ k ≤ r.length ∧ -9223372036854775808 ≤ (takeK k g neg r).1 ∧ (takeK k g neg r).1 ≤ 9223372036854775807 := by
  have hlt := ofBE_lt (r.take k |>.map g).length _ rfl hg
  unfold takeK at h ⊢
  generalize ofBE ((r.take k).map g) = u at *
  by_cases h1 : r.length < k
  · rw [if_pos h1] at h; simp at h
  · rw [if_neg h1] at h ⊢
    by_cases h2 : 9223372036854775807 < u ∨ width (if neg then -u - 1 else u) ≠ 1 + k
    · rw [if_pos h2] at h; simp at h
    · rw [if_neg h2]
      refine ⟨rfl, by omega, ?_⟩
      simp only
      split <;> omega
theorem takeInt_ok {bs : List Int} (hb : Byt bs) (h : (takeInt bs).2.2 = 0) : 1 ≤ (takeInt bs).2.1 ∧ (takeInt bs).2.1 ≤ 9 ∧ (takeInt bs).2.1 ≤ bs.length ∧ -9223372036854775808 ≤ (takeInt bs).1 ∧ (takeInt bs).1 ≤ 9223372036854775807 := by
  cases bs with
  | nil => simp [takeInt] at h
  | cons hd r =>
    have hbh := hb hd (by simp)
    have hbr : Byt r := fun x hx => hb x (by simp [hx])
    rw [takeInt_cons] at h ⊢
    simp only [List.length_cons]
    split at h
    · simp at h
    · rw [if_neg ‹_›]
      split at h
      · rw [if_pos ‹_›]
        have := takeK_ok (k := (hd - 208).toNat) (g := fun a => a) (neg := false) (r := r) (fun x hx => by
          obtain ⟨y, hy, rfl⟩ := List.mem_map.1 hx
          exact hbr y (List.mem_of_mem_take hy)) (by omega) h
        omega
      · rw [if_neg ‹_›]
        split at h
        · rw [if_pos ‹_›]
          have := takeK_ok (k := (8 - hd).toNat) (g := fun a => 255 - a) (neg := true) (r := r) (fun x hx => by
            obtain ⟨y, hy, rfl⟩ := List.mem_map.1 hx
            have := hbr y (List.mem_of_mem_take hy)
            (try simp only); omega) (by omega) h
          omega
        · rw [if_neg ‹_›]
          simp only
          omega

def unfrK (n : Int) (k : Nat) (bs : List Int) : Int × List Int × Int :=
  if n < 0 then (11, [], 0) else if 1048576 < n then (3, [], 0) else if (bs.length : Int) - k - 4 < n then (10, [], 0)
  else if adler ((bs.drop k).take n.toNat) ≠ ofBE ((bs.drop (k + n.toNat)).take 4) then (12, [], 0) else (0, (bs.drop k).take n.toNat, k + n + 4)
/-- what is wrong with a frame, the bytes in it, where it ends -/
def unfr (bs : List Int) : Int × List Int × Int := if (takeInt bs).2.2 ≠ 0 then ((takeInt bs).2.2, [], 0) else unfrK (takeInt bs).1 (takeInt bs).2.1.toNat bs

theorem Reads.shift {r : HProp} {b o : Nat} {xs ys : List Value} (h : Reads r (some ⟨b, o, none⟩) xs) (i : Nat) (hy : ∀ j v, ys[j]? = some v → xs[i + j]? = some v) : Reads r (some ⟨b, o + i, none⟩) ys := fun hp w hr hf j v hj => by
  obtain ⟨ad, ha, hc⟩ := h hp w hr hf (i + j) v (hy j v hj)
  cases ha
  refine ⟨_, rfl, ?_⟩
  rw [← hc]
  rw [add_plain, add_plain, Nat.add_assoc]
theorem RdB.sub {r : HProp} {b o c : Nat} {bs : List Int} (hc : bs.length ≤ c) (hr : Reads r (some ⟨b, o, none⟩) (bs.map (Value.int .u8))) (K N : Nat) (h : K + N ≤ bs.length) : RdB r (.slice (some ⟨b, o + K, none⟩) ((bs.drop K).take N).length (c - K)) ((bs.drop K).take N) := by
  refine .row b (o + K) (c - K) _ (by rw [List.length_take, List.length_drop]; omega) (hr.shift K fun j v hj => ?_)
  rw [List.getElem?_map, List.getElem?_take] at hj
  split at hj
  · rwa [List.getElem?_drop, ← List.getElem?_map] at hj
  · cases hj
theorem Byt.sub {bs : List Int} (h : Byt bs) (K N : Nat) : Byt ((bs.drop K).take N) := fun x hx => h x (List.mem_of_mem_drop (List.mem_of_mem_take hx))

set_option maxHeartbeats 1000000 in
theorem cUnframe_ok (k : Nat) (r : HProp) (v : Value) (bs : List Int) (hv : RdB r v bs) (hb : Byt bs) (hl : bs.length ≤ 70368744177664) :
    Spec Try.prog 63 [v] [k] [r] fun F w Rs' => ((unfr bs).1 ≠ 0 ∧ w = .tuple #[.slice none 0 0, .int .i64 0, .int .i64 (unfr bs).1] ∧ Rs' = (k, r) :: F) ∨
      ((unfr bs).1 = 0 ∧ ∃ b t, w = .tuple #[.slice (some ⟨b, 0, none⟩) (unfr bs).2.1.length ((unfr bs).2.1.length + t.length), .int .i64 (unfr bs).2.2, .int .i64 0] ∧ Rs' = (b, pts b (.cells ((unfr bs).2.1.map (Value.int .u8) ++ t).toArray 5 (0, 0))) :: (k, r) :: F) := by
  refine spec_of Try.func63 rfl Try.ntmps63 rfl ?_
  intro w0 F
  obtain ⟨a, c, rfl, hsome, hc, hr⟩ := hv.gen
  have htk := takeInt_ok hb
  repeat' (first | with_reducible (first | refine sw_op ?_ | refine sw_op_ ?_) | ((with_reducible refine sw_call (cInt_ok k r _ bs hv hb (by omega)) ?_); rintro _ _ ⟨rfl, rfl⟩) | with_reducible (first | refine sw_nil ?_ | refine sq_then ?_ | refine sc_seq ?_ | refine sc_region ?_ | refine sw_guard_skip ?_ | refine sw_guard_skip_ ?_ | refine sw_guard_run ?_ | refine sc_cond_true ?_ | refine sc_cond_false ?_ | refine sc_ret ?_ | refine sq_then_ret ?_ | refine sc_skip ?_ | refine sc_block ?_ | refine sq_block ?_ | refine sq_block_ret ?_ | refine sc_exit ?_ | refine sq_then_exit ?_ | refine sq_block_exit ?_ | refine sq_block_past ?_ | refine sq_round_ret ?_ | refine sq_round_exit ?_) | fail)
  unfold unfr
  generalize takeInt bs = T at htk ⊢
  rcases T with ⟨n, K, e⟩
  simp only at htk ⊢
  rcases Classical.em (e = 0) with rfl | he
  · obtain ⟨h1, h2, h3, h4, h5⟩ := htk rfl
    clear htk
    rw [if_neg (by omega)]
    obtain ⟨K, rfl⟩ : ∃ K' : Nat, K = K' := ⟨K.toNat, by omega⟩
    rw [Int.toNat_natCast]
    obtain ⟨b, o, rfl⟩ := hsome (by omega)
    unfold unfrK
    repeat' (first | with_reducible (first | refine sw_in (by omega) ?_ | refine sw_op ?_ | refine sw_op_ ?_) | with_reducible (first | refine sw_nil ?_ | refine sq_then ?_ | refine sc_seq ?_ | refine sc_region ?_ | refine sw_guard_skip ?_ | refine sw_guard_skip_ ?_ | refine sw_guard_run ?_ | refine sc_cond_true ?_ | refine sc_cond_false ?_ | refine sc_ret ?_ | refine sq_then_ret ?_ | refine sc_skip ?_ | refine sc_block ?_ | refine sq_block ?_ | refine sq_block_ret ?_ | refine sc_exit ?_ | refine sq_then_exit ?_ | refine sq_block_exit ?_ | refine sq_block_past ?_ | refine sq_round_ret ?_ | refine sq_round_exit ?_) | (with_reducible refine sc_cond (fun h => ?_) (fun h => ?_)) <;> (try (exfalso; first | contradiction | omega | exact h Iff.rfl)) | fail)
    · rw [if_pos h]
      refine sq_ret3 Try.results63 ?_
      exact ⟨_, .inl ⟨by decide, rfl, rfl⟩, Ent.refl _⟩
    · rw [if_neg (by omega), if_pos (by omega)]
      refine sq_ret3 Try.results63 ?_
      exact ⟨_, .inl ⟨by decide, rfl, rfl⟩, Ent.refl _⟩
    · rw [if_neg (by omega), if_neg (by omega), if_pos (by omega)]
      refine sq_ret3 Try.results63 ?_
      exact ⟨_, .inl ⟨by decide, rfl, rfl⟩, Ent.refl _⟩
    · rw [if_neg (by omega), if_neg (by omega), if_neg (by omega)]
      obtain ⟨N, rfl⟩ : ∃ N : Nat, n = N := ⟨n.toNat, by omega⟩
      rw [Int.toNat_natCast]
      have hfit : K + N + 4 ≤ bs.length := by omega
      refine sw_slice (K + N) (K + N + 4) c (o + (K + N)) (by omega) ⟨by omega, by omega, rfl, by rw [if_neg (by omega)]⟩ ?_
      have hNl : ((bs.drop K).take N).length = N := by rw [List.length_take, List.length_drop]; omega
      repeat' (first | with_reducible (first | refine sw_op ?_ | refine sw_op_ ?_) | with_reducible (first | refine sw_nil ?_ | refine sq_then ?_ | refine sc_seq ?_ | refine sc_region ?_ | refine sw_guard_skip ?_ | refine sw_guard_skip_ ?_ | refine sw_guard_run ?_ | refine sc_cond_true ?_ | refine sc_cond_false ?_ | refine sc_ret ?_ | refine sq_then_ret ?_ | refine sc_skip ?_ | refine sc_block ?_ | refine sq_block ?_ | refine sq_block_ret ?_ | refine sc_exit ?_ | refine sq_then_exit ?_ | refine sq_block_exit ?_ | refine sq_block_past ?_ | refine sq_round_ret ?_ | refine sq_round_exit ?_) | fail)
      refine sc_loop (α := { i : Nat // i ≤ 4 }) (fun i => [(0, .slice (some ⟨b, o, none⟩) bs.length c), (6, .int .i64 (K : Int)), (8, .int .i64 ((K : Int) + (N : Int))), (9, .int .u32 (ofBE ((bs.drop (K + N)).take i.1))), (43, .slice (some ⟨b, o + (K + N), none⟩) (K + N + 4 - (K + N)) (c - (K + N))), (44, .int .i64 4), (45, .int .i64 (i.1 : Int))])
        (fun _ => (k, r) :: F) (fun i => 4 - i.1) ⟨0, Nat.zero_le _⟩ ?_ ?_ ?_
      · refine says_cons rfl (says_cons rfl (says_cons rfl (says_cons rfl (says_cons rfl (says_cons ?_ (says_cons rfl says_nil))))))
        have h4 : ((K + N + 4 - (K + N) : Nat) : Int) = 4 := by omega
        rw [← h4]
      · exact Ent.refl _
      · rintro ⟨i, hi⟩ e
        (try simp only at hi)
        simp only [List.cons_append, List.nil_append]
        repeat' (first | with_reducible (first | refine sw_in (by omega) ?_ | refine sw_op ?_ | refine sw_op_ ?_) | with_reducible (first | refine sw_nil ?_ | refine sq_then ?_ | refine sc_seq ?_ | refine sc_region ?_ | refine sw_guard_skip ?_ | refine sw_guard_skip_ ?_ | refine sw_guard_run ?_ | refine sc_cond_true ?_ | refine sc_cond_false ?_ | refine sc_ret ?_ | refine sq_then_ret ?_ | refine sc_skip ?_ | refine sc_block ?_ | refine sq_block ?_ | refine sq_block_ret ?_ | refine sc_exit ?_ | refine sq_then_exit ?_ | refine sq_block_exit ?_ | refine sq_block_past ?_ | refine sq_round_ret ?_ | refine sq_round_exit ?_) | (with_reducible refine sc_cond (fun h => ?_) (fun h => ?_)) <;> (try (exfalso; first | contradiction | omega | exact h Iff.rfl)) | fail)
        · have hi2 : K + N + i < bs.length := by omega
          have hri : bs[K + N + i]? = some bs[K + N + i] := List.getElem?_eq_getElem hi2
          have hbi := hb bs[K + N + i] (List.getElem_mem hi2)
          have hU := ofBE_lt i ((bs.drop (K + N)).take i) (by rw [List.length_take, List.length_drop]; omega) (hb.sub _ _)
          have hp : (256 ^ i : Nat) ≤ 16777216 := Nat.le_trans (Nat.pow_le_pow_right (by omega) (show i ≤ 3 by omega)) (by decide)
          have hsn : ofBE ((bs.drop (K + N)).take (i + 1)) = ofBE ((bs.drop (K + N)).take i) * 256 + bs[K + N + i] := by
            rw [List.take_add_one, List.getElem?_drop, hri, Option.toList_some, ofBE_snoc]
          refine sw_index (by omega) ?_
          refine sw_load_rd k (K + N + i) (.int .u8 bs[K + N + i]) hr (by rw [List.getElem?_map, hri]; rfl) (by omega) ?_
          generalize bs[K + N + i] = y at *
          repeat' (first | with_reducible (first | refine sw_op ?_ | refine sw_op_ ?_) | with_reducible (first | refine sw_nil ?_ | refine sq_then ?_ | refine sc_seq ?_ | refine sc_region ?_ | refine sw_guard_skip ?_ | refine sw_guard_skip_ ?_ | refine sw_guard_run ?_ | refine sc_cond_true ?_ | refine sc_cond_false ?_ | refine sc_ret ?_ | refine sq_then_ret ?_ | refine sc_skip ?_ | refine sc_block ?_ | refine sq_block ?_ | refine sq_block_ret ?_ | refine sc_exit ?_ | refine sq_then_exit ?_ | refine sq_block_exit ?_ | refine sq_block_past ?_ | refine sq_round_ret ?_ | refine sq_round_exit ?_) | fail)
          refine sw_shlP (k := .u32) 8 256 ⟨rfl, by decide, rfl⟩ (by omega) ?_
          repeat' (first | with_reducible (first | refine sw_in (by omega) ?_ | refine sw_op ?_ | refine sw_op_ ?_) | with_reducible (first | refine sw_nil ?_ | refine sq_then ?_ | refine sc_seq ?_ | refine sc_region ?_ | refine sw_guard_skip ?_ | refine sw_guard_skip_ ?_ | refine sw_guard_run ?_ | refine sc_cond_true ?_ | refine sc_cond_false ?_ | refine sc_ret ?_ | refine sq_then_ret ?_ | refine sc_skip ?_ | refine sc_block ?_ | refine sq_block ?_ | refine sq_block_ret ?_ | refine sc_exit ?_ | refine sq_then_exit ?_ | refine sq_block_exit ?_ | refine sq_block_past ?_ | refine sq_round_ret ?_ | refine sq_round_exit ?_) | fail)
          rw [ior_u32 (by omega) hbi (by omega)]
          refine sq_round ⟨i + 1, by omega⟩ ?_ ?_ ?_
          · show 4 - (i + 1) < 4 - i
            omega
          · dsimp only
            rw [hsn]
            repeat' (first | exact says_nil | refine says_cons rfl ?_ | refine says_cons (by simp) ?_)
          · exact Ent.refl _
        · have hi4 : i = 4 := by omega
          subst hi4
          refine sw_slice K (K + N) c (o + K) (by omega) ⟨by omega, by omega, rfl, by split <;> omega⟩ ?_
          have hKN : K + N - K = ((bs.drop K).take N).length := by omega
          rw [hKN]
          refine sw_buildSlice [.slice (some ⟨b, o + K, none⟩) ((bs.drop K).take N).length (c - K)] (by omega) rfl fun b1 => ?_
          have hsub := RdB.sub hc hr K N (by omega)
          repeat' (first | with_reducible (first | refine sw_op ?_ | refine sw_op_ ?_) | ((with_reducible refine sw_call (cSum_ok b1 k r _ ((bs.drop K).take N) hsub (hb.sub K N) (by omega)) ?_); rintro _ _ ⟨rfl, rfl⟩) | with_reducible (first | refine sw_nil ?_ | refine sq_then ?_ | refine sc_seq ?_ | refine sc_region ?_ | refine sw_guard_skip ?_ | refine sw_guard_skip_ ?_ | refine sw_guard_run ?_ | refine sc_cond_true ?_ | refine sc_cond_false ?_ | refine sc_ret ?_ | refine sq_then_ret ?_ | refine sc_skip ?_ | refine sc_block ?_ | refine sq_block ?_ | refine sq_block_ret ?_ | refine sc_exit ?_ | refine sq_then_exit ?_ | refine sq_block_exit ?_ | refine sq_block_past ?_ | refine sq_round_ret ?_ | refine sq_round_exit ?_) | (with_reducible refine sc_cond (fun h => ?_) (fun h => ?_)) <;> (try (exfalso; first | contradiction | omega | exact h Iff.rfl)) | fail)
          · rw [if_pos h]
            refine sq_ret3 Try.results63 ?_
            refine ⟨_, .inl ⟨by decide, rfl, rfl⟩, ?_⟩
            repeat' (first | with_reducible exact Ent.refl _ | with_reducible refine Ent.take_eq ?_ ?_ | rfl | with_reducible refine Ent.trans (Ent.drop _ _) ?_)
          · rw [if_neg h]
            refine sw_slice K (K + N) c (o + K) (by omega) ⟨by omega, by omega, rfl, by split <;> omega⟩ ?_
            rw [hKN]
            obtain ⟨a2, c2, ha2, hs2, hc2, hr2⟩ := hsub.gen
            cases ha2
            repeat' (first | with_reducible (first | refine sw_op ?_ | refine sw_op_ ?_) | with_reducible (first | refine sw_nil ?_ | refine sq_then ?_ | refine sc_seq ?_ | refine sc_region ?_ | refine sw_guard_skip ?_ | refine sw_guard_skip_ ?_ | refine sw_guard_run ?_ | refine sc_cond_true ?_ | refine sc_cond_false ?_ | refine sc_ret ?_ | refine sq_then_ret ?_ | refine sc_skip ?_ | refine sc_block ?_ | refine sq_block ?_ | refine sq_block_ret ?_ | refine sc_exit ?_ | refine sq_then_exit ?_ | refine sq_block_exit ?_ | refine sq_block_past ?_ | refine sq_round_ret ?_ | refine sq_round_exit ?_) | fail)
            refine sw_call (clB_ok k r _ ((bs.drop K).take N).length (c - K) (((bs.drop K).take N).map (Value.int .u8)) hr2 (one_ints _ _) (by rw [List.length_map]) (by omega)) ?_
            rintro _ _ (⟨h0, _⟩ | ⟨_, b3, t3, rfl, rfl⟩)
            · cases h0
            repeat' (first | with_reducible (first | refine sw_in (by omega) ?_ | refine sw_op ?_ | refine sw_op_ ?_) | with_reducible (first | refine sw_nil ?_ | refine sq_then ?_ | refine sc_seq ?_ | refine sc_region ?_ | refine sw_guard_skip ?_ | refine sw_guard_skip_ ?_ | refine sw_guard_run ?_ | refine sc_cond_true ?_ | refine sc_cond_false ?_ | refine sc_ret ?_ | refine sq_then_ret ?_ | refine sc_skip ?_ | refine sc_block ?_ | refine sq_block ?_ | refine sq_block_ret ?_ | refine sc_exit ?_ | refine sq_then_exit ?_ | refine sq_block_exit ?_ | refine sq_block_past ?_ | refine sq_round_ret ?_ | refine sq_round_exit ?_) | fail)
            refine sq_ret3 Try.results63 ?_
            refine ⟨_, .inr ⟨rfl, b3, t3, rfl, rfl⟩, ?_⟩
            repeat' (first | with_reducible exact Ent.refl _ | with_reducible refine Ent.take_eq ?_ ?_ | rfl | with_reducible refine Ent.trans (Ent.drop _ _) ?_)
  · rw [if_pos he]
    repeat' (first | with_reducible (first | refine sw_op ?_ | refine sw_op_ ?_) | with_reducible (first | refine sw_nil ?_ | refine sq_then ?_ | refine sc_seq ?_ | refine sc_region ?_ | refine sw_guard_skip ?_ | refine sw_guard_skip_ ?_ | refine sw_guard_run ?_ | refine sc_cond_true ?_ | refine sc_cond_false ?_ | refine sc_ret ?_ | refine sq_then_ret ?_ | refine sc_skip ?_ | refine sc_block ?_ | refine sq_block ?_ | refine sq_block_ret ?_ | refine sc_exit ?_ | refine sq_then_exit ?_ | refine sq_block_exit ?_ | refine sq_block_past ?_ | refine sq_round_ret ?_ | refine sq_round_exit ?_) | (with_reducible refine sc_cond (fun h => ?_) (fun h => ?_)) <;> (try (exfalso; first | contradiction | omega | exact h Iff.rfl)) | fail)
    refine sq_ret3 Try.results63 ?_
    exact ⟨_, .inl ⟨he, rfl, rfl⟩, Ent.refl _⟩
end Go.Gsl
