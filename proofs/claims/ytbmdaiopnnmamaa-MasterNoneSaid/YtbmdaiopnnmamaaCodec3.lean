/- The codec: Int. -/
import Derived.Test.YtbmdaiopnnmamaaCodec2
namespace Go.Gsl
set_option linter.unusedVariables false
open Go.Proofs

/-- the number of bytes, the highest one first -/
def ofBE (xs : List Int) : Int := xs.foldl (fun u c => u * 256 + c) 0
theorem ofBE_snoc (xs : List Int) (c : Int) : ofBE (xs ++ [c]) = ofBE xs * 256 + c := by unfold ofBE; rw [List.foldl_append]; rfl
theorem ofBE_lt : ∀ (n : Nat) (xs : List Int), xs.length = n → Byt xs → 0 ≤ ofBE xs ∧ ofBE xs < ((256 ^ n : Nat) : Int)
  | 0, xs, h, _ => by
    rw [List.eq_nil_of_length_eq_zero h]; decide
  | n + 1, xs, h, hb => by
    rcases List.eq_nil_or_concat xs with rfl | ⟨ys, c, rfl⟩
    · simp at h
    · rw [List.concat_eq_append] at h hb ⊢
      rw [ofBE_snoc]
      have hy := ofBE_lt n ys (by simpa using h) fun x hx => hb x (by simp [hx])
      have hc := hb c (by simp)
      have h2 : (256 ^ (n + 1) : Nat) = 256 ^ n * 256 := Nat.pow_succ ..
      omega
theorem pow_le8 {i : Nat} (h : i ≤ 8) : (256 ^ i : Nat) ≤ 18446744073709551616 := Nat.le_trans (Nat.pow_le_pow_right (by omega) h) (by decide)
theorem pow_le7 {i : Nat} (h : i ≤ 7) : (256 ^ i : Nat) ≤ 72057594037927936 := Nat.le_trans (Nat.pow_le_pow_right (by omega) h) (by decide)

def takeK (k : Nat) (g : Int → Int) (neg : Bool) (r : List Int) : Int × Int × Int :=
  if r.length < k then (0, 0, 10)
  else if 9223372036854775807 < ofBE ((r.take k).map g) ∨ width (if neg then -ofBE ((r.take k).map g) - 1 else ofBE ((r.take k).map g)) ≠ 1 + k then (0, 0, 11)
  else (if neg then -ofBE ((r.take k).map g) - 1 else ofBE ((r.take k).map g), 1 + k, 0)
/-- the int with which bytes begin, how many it takes, what is wrong -/
def takeInt : List Int → Int × Int × Int
  | [] => (0, 0, 10)
  | h :: r => if 216 < h then (0, 0, 11) else if 208 < h then takeK (h - 208).toNat (fun a => a) false r else if h < 8 then takeK (8 - h).toNat (fun a => 255 - a) true r else (h - 108, 1, 0)

theorem takeInt_cons (h : Int) (r : List Int) : takeInt (h :: r) = if 216 < h then (0, 0, 11) else if 208 < h then takeK (h - 208).toNat (fun a => a) false r else if h < 8 then takeK (8 - h).toNat (fun a => 255 - a) true r else (h - 108, 1, 0) := rfl
theorem wrap_i64_in (c : Int) : -9223372036854775808 ≤ IntKind.i64.wrap c ∧ IntKind.i64.wrap c ≤ 9223372036854775807 := by
  have : IntKind.i64.wrap c = (c + 9223372036854775808) % 18446744073709551616 - 9223372036854775808 := by
    simp [IntKind.wrap, IntKind.bits, IntKind.signed]
    omega
  omega


set_option maxHeartbeats 1000000 in
theorem cInt_ok (k : Nat) (r : HProp) (v : Value) (bs : List Int) (hv : RdB r v bs) (hb : Byt bs) (hl : bs.length ≤ 140737488355328) :
    Spec Try.prog 90 [v] [k] [r] fun F w Rs' => w = .tuple #[.int .i64 (takeInt bs).1, .int .i64 (takeInt bs).2.1, .int .i64 (takeInt bs).2.2] ∧ Rs' = (k, r) :: F := by
  refine spec_of Try.func90 rfl Try.ntmps90 rfl ?_
  intro w0 F
  cases hv with
  | nil =>
    repeat' (first | with_reducible (first | refine sw_op ?_ | refine sw_op_ ?_) | with_reducible (first | refine sw_nil ?_ | refine sq_then ?_ | refine sc_seq ?_ | refine sc_region ?_ | refine sw_guard_skip ?_ | refine sw_guard_skip_ ?_ | refine sw_guard_run ?_ | refine sc_cond_true ?_ | refine sc_cond_false ?_ | refine sc_ret ?_ | refine sq_then_ret ?_ | refine sc_skip ?_ | refine sc_block ?_ | refine sq_block ?_ | refine sq_block_ret ?_ | refine sc_exit ?_ | refine sq_then_exit ?_ | refine sq_block_exit ?_ | refine sq_block_past ?_ | refine sq_round_ret ?_ | refine sq_round_exit ?_) | (with_reducible refine sc_cond (fun h => ?_) (fun h => ?_)) <;> (try (exfalso; first | contradiction | omega | exact h Iff.rfl)) | fail)
    refine sq_ret3 Try.results90 ?_
    exact ⟨_, ⟨rfl, rfl⟩, Ent.refl _⟩
  | row b o c bs hc hr =>
    cases bs with
    | nil =>
      repeat' (first | with_reducible (first | refine sw_op ?_ | refine sw_op_ ?_) | with_reducible (first | refine sw_nil ?_ | refine sq_then ?_ | refine sc_seq ?_ | refine sc_region ?_ | refine sw_guard_skip ?_ | refine sw_guard_skip_ ?_ | refine sw_guard_run ?_ | refine sc_cond_true ?_ | refine sc_cond_false ?_ | refine sc_ret ?_ | refine sq_then_ret ?_ | refine sc_skip ?_ | refine sc_block ?_ | refine sq_block ?_ | refine sq_block_ret ?_ | refine sc_exit ?_ | refine sq_then_exit ?_ | refine sq_block_exit ?_ | refine sq_block_past ?_ | refine sq_round_ret ?_ | refine sq_round_exit ?_) | (with_reducible refine sc_cond (fun h => ?_) (fun h => ?_)) <;> (try (exfalso; first | contradiction | omega | exact h Iff.rfl)) | fail)
      refine sq_ret3 Try.results90 ?_
      exact ⟨_, ⟨rfl, rfl⟩, Ent.refl _⟩
    | cons hd rest =>
      have hbh := hb hd (by simp)
      have hbr : Byt rest := fun x hx => hb x (by simp [hx])
      have hpos : 0 < (hd :: rest).length := by simp
      repeat' (first | with_reducible (first | refine sw_op ?_ | refine sw_op_ ?_) | with_reducible (first | refine sw_nil ?_ | refine sq_then ?_ | refine sc_seq ?_ | refine sc_region ?_ | refine sw_guard_skip ?_ | refine sw_guard_skip_ ?_ | refine sw_guard_run ?_ | refine sc_cond_true ?_ | refine sc_cond_false ?_ | refine sc_ret ?_ | refine sq_then_ret ?_ | refine sc_skip ?_ | refine sc_block ?_ | refine sq_block ?_ | refine sq_block_ret ?_ | refine sc_exit ?_ | refine sq_then_exit ?_ | refine sq_block_exit ?_ | refine sq_block_past ?_ | refine sq_round_ret ?_ | refine sq_round_exit ?_) | (with_reducible refine sc_cond (fun h => ?_) (fun h => ?_)) <;> (try (exfalso; first | contradiction | omega | exact h Iff.rfl)) | fail)
      refine sw_index (by omega) ?_
      repeat' (first | with_reducible (first | refine sw_op ?_ | refine sw_op_ ?_) | with_reducible (first | refine sw_nil ?_ | refine sq_then ?_ | refine sc_seq ?_ | refine sc_region ?_ | refine sw_guard_skip ?_ | refine sw_guard_skip_ ?_ | refine sw_guard_run ?_ | refine sc_cond_true ?_ | refine sc_cond_false ?_ | refine sc_ret ?_ | refine sq_then_ret ?_ | refine sc_skip ?_ | refine sc_block ?_ | refine sq_block ?_ | refine sq_block_ret ?_ | refine sc_exit ?_ | refine sq_then_exit ?_ | refine sq_block_exit ?_ | refine sq_block_past ?_ | refine sq_round_ret ?_ | refine sq_round_exit ?_) | fail)
      refine sw_load_rd k 0 (.int .u8 hd) hr rfl (by simp) ?_
      repeat' (first | with_reducible (first | refine sw_in (by omega) ?_ | refine sw_op ?_ | refine sw_op_ ?_) | with_reducible (first | refine sw_nil ?_ | refine sq_then ?_ | refine sc_seq ?_ | refine sc_region ?_ | refine sw_guard_skip ?_ | refine sw_guard_skip_ ?_ | refine sw_guard_run ?_ | refine sc_cond_true ?_ | refine sc_cond_false ?_ | refine sc_ret ?_ | refine sq_then_ret ?_ | refine sc_skip ?_ | refine sc_block ?_ | refine sq_block ?_ | refine sq_block_ret ?_ | refine sc_exit ?_ | refine sq_then_exit ?_ | refine sq_block_exit ?_ | refine sq_block_past ?_ | refine sq_round_ret ?_ | refine sq_round_exit ?_) | (with_reducible refine sc_cond (fun h => ?_) (fun h => ?_)) <;> (try (exfalso; first | contradiction | omega | exact h Iff.rfl)) | fail)
      · refine sq_ret3 Try.results90 ?_
        refine ⟨_, ⟨?_, rfl⟩, Ent.refl _⟩
        rw [takeInt_cons, if_pos h]
      · obtain ⟨K, hK⟩ : ∃ K : Nat, hd - 208 = (K : Int) := ⟨(hd - 208).toNat, by omega⟩
        have hT : takeInt (hd :: rest) = takeK K (fun a => a) false rest := by
          rw [takeInt_cons]
          rw [if_neg (by omega), if_pos (by omega)]
          rw [hK, Int.toNat_natCast]
        rw [hT]
        refine sq_ret3 Try.results90 ?_
        refine ⟨_, ⟨?_, rfl⟩, Ent.refl _⟩
        unfold takeK
        rw [if_pos (by simp only [List.length_cons] at h; omega)]
      · obtain ⟨K, hK⟩ : ∃ K : Nat, hd - 208 = (K : Int) := ⟨(hd - 208).toNat, by omega⟩
        have hT : takeInt (hd :: rest) = takeK K (fun a => a) false rest := by
          rw [takeInt_cons]
          rw [if_neg (by omega), if_pos (by omega)]
          rw [hK, Int.toNat_natCast]
        rw [hT]
        rw [hK]
        · have hlen : K ≤ rest.length := by simp only [List.length_cons] at h; omega
          clear h
          have hbR : Byt ((rest.take K).map (fun a => a)) := fun x hx => by
            obtain ⟨y, hy, rfl⟩ := List.mem_map.1 hx
            have := hbr y (List.mem_of_mem_take hy)
            (try simp only); omega
          refine sw_slice 1 (1 + K) c (o + 1) (by simp only [List.length_cons] at hc; omega) ⟨rfl, by omega, rfl, by rw [if_neg (by simp only [List.length_cons] at hc; omega)]⟩ ?_
          simp only [Nat.add_sub_cancel_left]
          repeat' (first | with_reducible (first | refine sw_op ?_ | refine sw_op_ ?_) | with_reducible (first | refine sw_nil ?_ | refine sq_then ?_ | refine sc_seq ?_ | refine sc_region ?_ | refine sw_guard_skip ?_ | refine sw_guard_skip_ ?_ | refine sw_guard_run ?_ | refine sc_cond_true ?_ | refine sc_cond_false ?_ | refine sc_ret ?_ | refine sq_then_ret ?_ | refine sc_skip ?_ | refine sc_block ?_ | refine sq_block ?_ | refine sq_block_ret ?_ | refine sc_exit ?_ | refine sq_then_exit ?_ | refine sq_block_exit ?_ | refine sq_block_past ?_ | refine sq_round_ret ?_ | refine sq_round_exit ?_) | fail)
          refine sc_loop (α := { i : Nat // i ≤ K }) (fun i => [(6, .int .i64 (K : Int)), (7, .int .u8 0), (8, .int .u64 (ofBE ((rest.take i.1).map (fun a => a)))), (41, .slice (some ⟨b, o + 1, none⟩) K (c - 1)), (42, .int .i64 (K : Int)), (43, .int .i64 (i.1 : Int))])
            (fun _ => (k, r) :: F) (fun i => K - i.1) ⟨0, Nat.zero_le _⟩ ?_ ?_ ?_
          · repeat' (first | exact says_nil | refine says_cons rfl ?_ | refine says_cons (by simp) ?_)
          · exact Ent.refl _
          rintro ⟨i, hi⟩ e
          (try simp only at hi)
          simp only [List.cons_append, List.nil_append]
          repeat' (first | with_reducible (first | refine sw_in (by omega) ?_ | refine sw_op ?_ | refine sw_op_ ?_) | with_reducible (first | refine sw_nil ?_ | refine sq_then ?_ | refine sc_seq ?_ | refine sc_region ?_ | refine sw_guard_skip ?_ | refine sw_guard_skip_ ?_ | refine sw_guard_run ?_ | refine sc_cond_true ?_ | refine sc_cond_false ?_ | refine sc_ret ?_ | refine sq_then_ret ?_ | refine sc_skip ?_ | refine sc_block ?_ | refine sq_block ?_ | refine sq_block_ret ?_ | refine sc_exit ?_ | refine sq_then_exit ?_ | refine sq_block_exit ?_ | refine sq_block_past ?_ | refine sq_round_ret ?_ | refine sq_round_exit ?_) | (with_reducible refine sc_cond (fun h => ?_) (fun h => ?_)) <;> (try (exfalso; first | contradiction | omega | exact h Iff.rfl)) | fail)
          focus
            have hi2 : i < K := by omega
            have hi3 : i < rest.length := by omega
            have hri : rest[i]? = some rest[i] := List.getElem?_eq_getElem hi3
            have hbi := hbr rest[i] (List.getElem_mem hi3)
            have hU := ofBE_lt i ((rest.take i).map (fun a => a)) (by rw [List.length_map, List.length_take]; omega) (fun x hx => by
              obtain ⟨y, hy, rfl⟩ := List.mem_map.1 hx
              have := hbr y (List.mem_of_mem_take hy)
              (try simp only); omega)
            have hp := pow_le7 (i := i) (by omega)
            have hsn : ofBE ((rest.take (i + 1)).map (fun a => a)) = ofBE ((rest.take i).map (fun a => a)) * 256 + (fun a => a) rest[i] := by
              rw [List.take_add_one, hri, Option.toList_some, List.map_append, List.map_singleton, ofBE_snoc]
            refine sw_index (by omega) ?_
            repeat' (first | with_reducible (first | refine sw_op ?_ | refine sw_op_ ?_) | with_reducible (first | refine sw_nil ?_ | refine sq_then ?_ | refine sc_seq ?_ | refine sc_region ?_ | refine sw_guard_skip ?_ | refine sw_guard_skip_ ?_ | refine sw_guard_run ?_ | refine sc_cond_true ?_ | refine sc_cond_false ?_ | refine sc_ret ?_ | refine sq_then_ret ?_ | refine sc_skip ?_ | refine sc_block ?_ | refine sq_block ?_ | refine sq_block_ret ?_ | refine sc_exit ?_ | refine sq_then_exit ?_ | refine sq_block_exit ?_ | refine sq_block_past ?_ | refine sq_round_ret ?_ | refine sq_round_exit ?_) | fail)
            refine sw_load_rd k (1 + i) (.int .u8 rest[i]) hr (by rw [Nat.add_comm, List.map_cons, List.getElem?_cons_succ, List.getElem?_map, hri]; rfl) (by simp; omega) ?_
            repeat' (first | with_reducible (first | refine sw_op ?_ | refine sw_op_ ?_) | with_reducible (first | refine sw_nil ?_ | refine sq_then ?_ | refine sc_seq ?_ | refine sc_region ?_ | refine sw_guard_skip ?_ | refine sw_guard_skip_ ?_ | refine sw_guard_run ?_ | refine sc_cond_true ?_ | refine sc_cond_false ?_ | refine sc_ret ?_ | refine sq_then_ret ?_ | refine sc_skip ?_ | refine sc_block ?_ | refine sq_block ?_ | refine sq_block_ret ?_ | refine sc_exit ?_ | refine sq_then_exit ?_ | refine sq_block_exit ?_ | refine sq_block_past ?_ | refine sq_round_ret ?_ | refine sq_round_exit ?_) | fail)
            refine sw_shlP (k := .u64) 8 256 ⟨rfl, by decide, rfl⟩ (by omega) ?_
            generalize rest[i] = y at *
            with_reducible refine sw_op ?_
            with_reducible refine sw_op ?_
            refine sw_as (.int .u8 ((fun a => a) y)) (by rw [ixor_u8_0 (a := y) hbi]) ?_
            have hg : 0 ≤ (fun a => a) y ∧ (fun a => a) y ≤ 255 := by (try simp only); omega
            generalize hgy : (fun a => a) y = gy at *
            repeat' (first | with_reducible (first | refine sw_in (by omega) ?_ | refine sw_op ?_ | refine sw_op_ ?_) | with_reducible (first | refine sw_nil ?_ | refine sq_then ?_ | refine sc_seq ?_ | refine sc_region ?_ | refine sw_guard_skip ?_ | refine sw_guard_skip_ ?_ | refine sw_guard_run ?_ | refine sc_cond_true ?_ | refine sc_cond_false ?_ | refine sc_ret ?_ | refine sq_then_ret ?_ | refine sc_skip ?_ | refine sc_block ?_ | refine sq_block ?_ | refine sq_block_ret ?_ | refine sc_exit ?_ | refine sq_then_exit ?_ | refine sq_block_exit ?_ | refine sq_block_past ?_ | refine sq_round_ret ?_ | refine sq_round_exit ?_) | (with_reducible refine sc_cond (fun h => ?_) (fun h => ?_)) <;> (try (exfalso; first | contradiction | omega | exact h Iff.rfl)) | fail)
            rw [ior_u64 (by omega) hg (by omega)]
            rw [← hsn]
            refine sq_round ⟨i + 1, by omega⟩ ?_ ?_ ?_
            · show K - (i + 1) < K - i
              omega
            · repeat' (first | exact says_nil | refine says_cons rfl ?_ | refine says_cons (by simp) ?_)
            · exact Ent.refl _
          have hiK : i = K := by omega
          subst hiK
          have hU := ofBE_lt i ((rest.take i).map (fun a => a)) (by rw [List.length_map, List.length_take]; omega) hbR
          have hp := pow_le8 (i := i) (by omega)
          unfold takeK
          rw [if_neg (by omega)]
          generalize ofBE ((rest.take i).map (fun a => a)) = U at *
          rcases Int.lt_or_le 9223372036854775807 U with hbig | hsm
          · rw [if_pos (Or.inl hbig)]
            have hwr := wrap_i64_in U
            repeat' (first | with_reducible (first | refine sw_op ?_ | refine sw_op_ ?_) | with_reducible (first | refine sw_nil ?_ | refine sq_then ?_ | refine sc_seq ?_ | refine sc_region ?_ | refine sw_guard_skip ?_ | refine sw_guard_skip_ ?_ | refine sw_guard_run ?_ | refine sc_cond_true ?_ | refine sc_cond_false ?_ | refine sc_ret ?_ | refine sq_then_ret ?_ | refine sc_skip ?_ | refine sc_block ?_ | refine sq_block ?_ | refine sq_block_ret ?_ | refine sc_exit ?_ | refine sq_then_exit ?_ | refine sq_block_exit ?_ | refine sq_block_past ?_ | refine sq_round_ret ?_ | refine sq_round_exit ?_) | (with_reducible refine sc_cond (fun h => ?_) (fun h => ?_)) <;> (try (exfalso; first | contradiction | omega | exact h Iff.rfl)) | fail)
            skip
            refine sw_shrP (k := .u64) 63 9223372036854775808 ⟨rfl, by decide, by omega, rfl⟩ ?_
            repeat' (first | with_reducible (first | refine sw_op ?_ | refine sw_op_ ?_) | with_reducible (first | refine sw_nil ?_ | refine sq_then ?_ | refine sc_seq ?_ | refine sc_region ?_ | refine sw_guard_skip ?_ | refine sw_guard_skip_ ?_ | refine sw_guard_run ?_ | refine sc_cond_true ?_ | refine sc_cond_false ?_ | refine sc_ret ?_ | refine sq_then_ret ?_ | refine sc_skip ?_ | refine sc_block ?_ | refine sq_block ?_ | refine sq_block_ret ?_ | refine sc_exit ?_ | refine sq_then_exit ?_ | refine sq_block_exit ?_ | refine sq_block_past ?_ | refine sq_round_ret ?_ | refine sq_round_exit ?_) | (with_reducible refine sc_cond (fun h => ?_) (fun h => ?_)) <;> (try (exfalso; first | contradiction | omega | exact h Iff.rfl)) | (with_reducible refine sw_guard_split (fun h => ?_) (fun h => ?_)) <;> (try (exfalso; first | contradiction | omega | exact h Iff.rfl)) | (with_reducible refine sw_pick (fun h => ?_) (fun h => ?_)) <;> (try (exfalso; first | contradiction | omega | exact h Iff.rfl)) | fail)
            refine sq_ret3 Try.results90 ?_
            exact ⟨_, ⟨rfl, rfl⟩, Ent.refl _⟩
          · try rw [IntWalk.i64_in U (by omega)]
            repeat' (first | with_reducible (first | refine sw_in (by omega) ?_ | refine sw_op ?_ | refine sw_op_ ?_) | with_reducible (first | refine sw_nil ?_ | refine sq_then ?_ | refine sc_seq ?_ | refine sc_region ?_ | refine sw_guard_skip ?_ | refine sw_guard_skip_ ?_ | refine sw_guard_run ?_ | refine sc_cond_true ?_ | refine sc_cond_false ?_ | refine sc_ret ?_ | refine sq_then_ret ?_ | refine sc_skip ?_ | refine sc_block ?_ | refine sq_block ?_ | refine sq_block_ret ?_ | refine sc_exit ?_ | refine sq_then_exit ?_ | refine sq_block_exit ?_ | refine sq_block_past ?_ | refine sq_round_ret ?_ | refine sq_round_exit ?_) | (with_reducible refine sc_cond (fun h => ?_) (fun h => ?_)) <;> (try (exfalso; first | contradiction | omega | exact h Iff.rfl)) | fail)
            skip
            refine sw_shrP (k := .u64) 63 9223372036854775808 ⟨rfl, by decide, by omega, rfl⟩ ?_
            repeat' (first | with_reducible (first | refine sw_in (by omega) ?_ | refine sw_op ?_ | refine sw_op_ ?_) | with_reducible (first | refine sw_nil ?_ | refine sq_then ?_ | refine sc_seq ?_ | refine sc_region ?_ | refine sw_guard_skip ?_ | refine sw_guard_skip_ ?_ | refine sw_guard_run ?_ | refine sc_cond_true ?_ | refine sc_cond_false ?_ | refine sc_ret ?_ | refine sq_then_ret ?_ | refine sc_skip ?_ | refine sc_block ?_ | refine sq_block ?_ | refine sq_block_ret ?_ | refine sc_exit ?_ | refine sq_then_exit ?_ | refine sq_block_exit ?_ | refine sq_block_past ?_ | refine sq_round_ret ?_ | refine sq_round_exit ?_) | (with_reducible refine sc_cond (fun h => ?_) (fun h => ?_)) <;> (try (exfalso; first | contradiction | omega | exact h Iff.rfl)) | (with_reducible refine sw_guard_split (fun h => ?_) (fun h => ?_)) <;> (try (exfalso; first | contradiction | omega | exact h Iff.rfl)) | (with_reducible refine sw_pick (fun h => ?_) (fun h => ?_)) <;> (try (exfalso; first | contradiction | omega | exact h Iff.rfl)) | fail)
            refine sw_call (cWidth_ok (U) (by omega)) ?_
            rintro _ _ ⟨rfl, rfl⟩
            repeat' (first | with_reducible (first | refine sw_in (by omega) ?_ | refine sw_op ?_ | refine sw_op_ ?_) | with_reducible (first | refine sw_nil ?_ | refine sq_then ?_ | refine sc_seq ?_ | refine sc_region ?_ | refine sw_guard_skip ?_ | refine sw_guard_skip_ ?_ | refine sw_guard_run ?_ | refine sc_cond_true ?_ | refine sc_cond_false ?_ | refine sc_ret ?_ | refine sq_then_ret ?_ | refine sc_skip ?_ | refine sc_block ?_ | refine sq_block ?_ | refine sq_block_ret ?_ | refine sc_exit ?_ | refine sq_then_exit ?_ | refine sq_block_exit ?_ | refine sq_block_past ?_ | refine sq_round_ret ?_ | refine sq_round_exit ?_) | (with_reducible refine sc_cond (fun h => ?_) (fun h => ?_)) <;> (try (exfalso; first | contradiction | omega | exact h Iff.rfl)) | (with_reducible refine sw_guard_split (fun h => ?_) (fun h => ?_)) <;> (try (exfalso; first | contradiction | omega | exact h Iff.rfl)) | (with_reducible refine sw_pick (fun h => ?_) (fun h => ?_)) <;> (try (exfalso; first | contradiction | omega | exact h Iff.rfl)) | fail)
            · have hne : width (U) ≠ 1 + i := by omega
              rw [if_pos (Or.inr (by simpa using hne))]
              refine sq_ret3 Try.results90 ?_
              exact ⟨_, ⟨rfl, rfl⟩, Ent.refl _⟩
            · have hne : width (U) = 1 + i := by omega
              rw [if_neg (by simp; omega)]
              refine sq_ret3 Try.results90 ?_
              exact ⟨_, ⟨rfl, rfl⟩, Ent.refl _⟩
      · obtain ⟨K, hK⟩ : ∃ K : Nat, 8 - hd = (K : Int) := ⟨(8 - hd).toNat, by omega⟩
        have hT : takeInt (hd :: rest) = takeK K (fun a => 255 - a) true rest := by
          rw [takeInt_cons]
          rw [if_neg (by omega), if_neg (by omega), if_pos (by omega)]
          rw [hK, Int.toNat_natCast]
        rw [hT]
        refine sq_ret3 Try.results90 ?_
        refine ⟨_, ⟨?_, rfl⟩, Ent.refl _⟩
        unfold takeK
        rw [if_pos (by simp only [List.length_cons] at h; omega)]
      · obtain ⟨K, hK⟩ : ∃ K : Nat, 8 - hd = (K : Int) := ⟨(8 - hd).toNat, by omega⟩
        have hT : takeInt (hd :: rest) = takeK K (fun a => 255 - a) true rest := by
          rw [takeInt_cons]
          rw [if_neg (by omega), if_neg (by omega), if_pos (by omega)]
          rw [hK, Int.toNat_natCast]
        rw [hT]
        rw [hK]
        · have hlen : K ≤ rest.length := by simp only [List.length_cons] at h; omega
          clear h
          have hbR : Byt ((rest.take K).map (fun a => 255 - a)) := fun x hx => by
            obtain ⟨y, hy, rfl⟩ := List.mem_map.1 hx
            have := hbr y (List.mem_of_mem_take hy)
            (try simp only); omega
          refine sw_slice 1 (1 + K) c (o + 1) (by simp only [List.length_cons] at hc; omega) ⟨rfl, by omega, rfl, by rw [if_neg (by simp only [List.length_cons] at hc; omega)]⟩ ?_
          simp only [Nat.add_sub_cancel_left]
          repeat' (first | with_reducible (first | refine sw_op ?_ | refine sw_op_ ?_) | with_reducible (first | refine sw_nil ?_ | refine sq_then ?_ | refine sc_seq ?_ | refine sc_region ?_ | refine sw_guard_skip ?_ | refine sw_guard_skip_ ?_ | refine sw_guard_run ?_ | refine sc_cond_true ?_ | refine sc_cond_false ?_ | refine sc_ret ?_ | refine sq_then_ret ?_ | refine sc_skip ?_ | refine sc_block ?_ | refine sq_block ?_ | refine sq_block_ret ?_ | refine sc_exit ?_ | refine sq_then_exit ?_ | refine sq_block_exit ?_ | refine sq_block_past ?_ | refine sq_round_ret ?_ | refine sq_round_exit ?_) | fail)
          refine sc_loop (α := { i : Nat // i ≤ K }) (fun i => [(6, .int .i64 (K : Int)), (7, .int .u8 255), (8, .int .u64 (ofBE ((rest.take i.1).map (fun a => 255 - a)))), (41, .slice (some ⟨b, o + 1, none⟩) K (c - 1)), (42, .int .i64 (K : Int)), (43, .int .i64 (i.1 : Int))])
            (fun _ => (k, r) :: F) (fun i => K - i.1) ⟨0, Nat.zero_le _⟩ ?_ ?_ ?_
          · repeat' (first | exact says_nil | refine says_cons rfl ?_ | refine says_cons (by simp) ?_)
          · exact Ent.refl _
          rintro ⟨i, hi⟩ e
          (try simp only at hi)
          simp only [List.cons_append, List.nil_append]
          repeat' (first | with_reducible (first | refine sw_in (by omega) ?_ | refine sw_op ?_ | refine sw_op_ ?_) | with_reducible (first | refine sw_nil ?_ | refine sq_then ?_ | refine sc_seq ?_ | refine sc_region ?_ | refine sw_guard_skip ?_ | refine sw_guard_skip_ ?_ | refine sw_guard_run ?_ | refine sc_cond_true ?_ | refine sc_cond_false ?_ | refine sc_ret ?_ | refine sq_then_ret ?_ | refine sc_skip ?_ | refine sc_block ?_ | refine sq_block ?_ | refine sq_block_ret ?_ | refine sc_exit ?_ | refine sq_then_exit ?_ | refine sq_block_exit ?_ | refine sq_block_past ?_ | refine sq_round_ret ?_ | refine sq_round_exit ?_) | (with_reducible refine sc_cond (fun h => ?_) (fun h => ?_)) <;> (try (exfalso; first | contradiction | omega | exact h Iff.rfl)) | fail)
          focus
            have hi2 : i < K := by omega
            have hi3 : i < rest.length := by omega
            have hri : rest[i]? = some rest[i] := List.getElem?_eq_getElem hi3
            have hbi := hbr rest[i] (List.getElem_mem hi3)
            have hU := ofBE_lt i ((rest.take i).map (fun a => 255 - a)) (by rw [List.length_map, List.length_take]; omega) (fun x hx => by
              obtain ⟨y, hy, rfl⟩ := List.mem_map.1 hx
              have := hbr y (List.mem_of_mem_take hy)
              (try simp only); omega)
            have hp := pow_le7 (i := i) (by omega)
            have hsn : ofBE ((rest.take (i + 1)).map (fun a => 255 - a)) = ofBE ((rest.take i).map (fun a => 255 - a)) * 256 + (fun a => 255 - a) rest[i] := by
              rw [List.take_add_one, hri, Option.toList_some, List.map_append, List.map_singleton, ofBE_snoc]
            refine sw_index (by omega) ?_
            repeat' (first | with_reducible (first | refine sw_op ?_ | refine sw_op_ ?_) | with_reducible (first | refine sw_nil ?_ | refine sq_then ?_ | refine sc_seq ?_ | refine sc_region ?_ | refine sw_guard_skip ?_ | refine sw_guard_skip_ ?_ | refine sw_guard_run ?_ | refine sc_cond_true ?_ | refine sc_cond_false ?_ | refine sc_ret ?_ | refine sq_then_ret ?_ | refine sc_skip ?_ | refine sc_block ?_ | refine sq_block ?_ | refine sq_block_ret ?_ | refine sc_exit ?_ | refine sq_then_exit ?_ | refine sq_block_exit ?_ | refine sq_block_past ?_ | refine sq_round_ret ?_ | refine sq_round_exit ?_) | fail)
            refine sw_load_rd k (1 + i) (.int .u8 rest[i]) hr (by rw [Nat.add_comm, List.map_cons, List.getElem?_cons_succ, List.getElem?_map, hri]; rfl) (by simp; omega) ?_
            repeat' (first | with_reducible (first | refine sw_op ?_ | refine sw_op_ ?_) | with_reducible (first | refine sw_nil ?_ | refine sq_then ?_ | refine sc_seq ?_ | refine sc_region ?_ | refine sw_guard_skip ?_ | refine sw_guard_skip_ ?_ | refine sw_guard_run ?_ | refine sc_cond_true ?_ | refine sc_cond_false ?_ | refine sc_ret ?_ | refine sq_then_ret ?_ | refine sc_skip ?_ | refine sc_block ?_ | refine sq_block ?_ | refine sq_block_ret ?_ | refine sc_exit ?_ | refine sq_then_exit ?_ | refine sq_block_exit ?_ | refine sq_block_past ?_ | refine sq_round_ret ?_ | refine sq_round_exit ?_) | fail)
            refine sw_shlP (k := .u64) 8 256 ⟨rfl, by decide, rfl⟩ (by omega) ?_
            generalize rest[i] = y at *
            with_reducible refine sw_op ?_
            with_reducible refine sw_op ?_
            refine sw_as (.int .u8 ((fun a => 255 - a) y)) (by rw [ixor_u8_255 (a := y) hbi]) ?_
            have hg : 0 ≤ (fun a => 255 - a) y ∧ (fun a => 255 - a) y ≤ 255 := by (try simp only); omega
            generalize hgy : (fun a => 255 - a) y = gy at *
            repeat' (first | with_reducible (first | refine sw_in (by omega) ?_ | refine sw_op ?_ | refine sw_op_ ?_) | with_reducible (first | refine sw_nil ?_ | refine sq_then ?_ | refine sc_seq ?_ | refine sc_region ?_ | refine sw_guard_skip ?_ | refine sw_guard_skip_ ?_ | refine sw_guard_run ?_ | refine sc_cond_true ?_ | refine sc_cond_false ?_ | refine sc_ret ?_ | refine sq_then_ret ?_ | refine sc_skip ?_ | refine sc_block ?_ | refine sq_block ?_ | refine sq_block_ret ?_ | refine sc_exit ?_ | refine sq_then_exit ?_ | refine sq_block_exit ?_ | refine sq_block_past ?_ | refine sq_round_ret ?_ | refine sq_round_exit ?_) | (with_reducible refine sc_cond (fun h => ?_) (fun h => ?_)) <;> (try (exfalso; first | contradiction | omega | exact h Iff.rfl)) | fail)
            rw [ior_u64 (by omega) hg (by omega)]
            rw [← hsn]
            refine sq_round ⟨i + 1, by omega⟩ ?_ ?_ ?_
            · show K - (i + 1) < K - i
              omega
            · repeat' (first | exact says_nil | refine says_cons rfl ?_ | refine says_cons (by simp) ?_)
            · exact Ent.refl _
          have hiK : i = K := by omega
          subst hiK
          have hU := ofBE_lt i ((rest.take i).map (fun a => 255 - a)) (by rw [List.length_map, List.length_take]; omega) hbR
          have hp := pow_le8 (i := i) (by omega)
          unfold takeK
          rw [if_neg (by omega)]
          generalize ofBE ((rest.take i).map (fun a => 255 - a)) = U at *
          rcases Int.lt_or_le 9223372036854775807 U with hbig | hsm
          · rw [if_pos (Or.inl hbig)]
            have hwr := wrap_i64_in U
            repeat' (first | with_reducible (first | refine sw_op ?_ | refine sw_op_ ?_) | with_reducible (first | refine sw_nil ?_ | refine sq_then ?_ | refine sc_seq ?_ | refine sc_region ?_ | refine sw_guard_skip ?_ | refine sw_guard_skip_ ?_ | refine sw_guard_run ?_ | refine sc_cond_true ?_ | refine sc_cond_false ?_ | refine sc_ret ?_ | refine sq_then_ret ?_ | refine sc_skip ?_ | refine sc_block ?_ | refine sq_block ?_ | refine sq_block_ret ?_ | refine sc_exit ?_ | refine sq_then_exit ?_ | refine sq_block_exit ?_ | refine sq_block_past ?_ | refine sq_round_ret ?_ | refine sq_round_exit ?_) | (with_reducible refine sc_cond (fun h => ?_) (fun h => ?_)) <;> (try (exfalso; first | contradiction | omega | exact h Iff.rfl)) | fail)
            refine sw_cpl hwr ?_; repeat' (first | with_reducible (first | refine sw_op ?_ | refine sw_op_ ?_) | with_reducible (first | refine sw_nil ?_ | refine sq_then ?_ | refine sc_seq ?_ | refine sc_region ?_ | refine sw_guard_skip ?_ | refine sw_guard_skip_ ?_ | refine sw_guard_run ?_ | refine sc_cond_true ?_ | refine sc_cond_false ?_ | refine sc_ret ?_ | refine sq_then_ret ?_ | refine sc_skip ?_ | refine sc_block ?_ | refine sq_block ?_ | refine sq_block_ret ?_ | refine sc_exit ?_ | refine sq_then_exit ?_ | refine sq_block_exit ?_ | refine sq_block_past ?_ | refine sq_round_ret ?_ | refine sq_round_exit ?_) | (with_reducible refine sc_cond (fun h => ?_) (fun h => ?_)) <;> (try (exfalso; first | contradiction | omega | exact h Iff.rfl)) | fail)
            refine sw_shrP (k := .u64) 63 9223372036854775808 ⟨rfl, by decide, by omega, rfl⟩ ?_
            repeat' (first | with_reducible (first | refine sw_op ?_ | refine sw_op_ ?_) | with_reducible (first | refine sw_nil ?_ | refine sq_then ?_ | refine sc_seq ?_ | refine sc_region ?_ | refine sw_guard_skip ?_ | refine sw_guard_skip_ ?_ | refine sw_guard_run ?_ | refine sc_cond_true ?_ | refine sc_cond_false ?_ | refine sc_ret ?_ | refine sq_then_ret ?_ | refine sc_skip ?_ | refine sc_block ?_ | refine sq_block ?_ | refine sq_block_ret ?_ | refine sc_exit ?_ | refine sq_then_exit ?_ | refine sq_block_exit ?_ | refine sq_block_past ?_ | refine sq_round_ret ?_ | refine sq_round_exit ?_) | (with_reducible refine sc_cond (fun h => ?_) (fun h => ?_)) <;> (try (exfalso; first | contradiction | omega | exact h Iff.rfl)) | (with_reducible refine sw_guard_split (fun h => ?_) (fun h => ?_)) <;> (try (exfalso; first | contradiction | omega | exact h Iff.rfl)) | (with_reducible refine sw_pick (fun h => ?_) (fun h => ?_)) <;> (try (exfalso; first | contradiction | omega | exact h Iff.rfl)) | fail)
            refine sq_ret3 Try.results90 ?_
            exact ⟨_, ⟨rfl, rfl⟩, Ent.refl _⟩
          · try rw [IntWalk.i64_in U (by omega)]
            repeat' (first | with_reducible (first | refine sw_in (by omega) ?_ | refine sw_op ?_ | refine sw_op_ ?_) | with_reducible (first | refine sw_nil ?_ | refine sq_then ?_ | refine sc_seq ?_ | refine sc_region ?_ | refine sw_guard_skip ?_ | refine sw_guard_skip_ ?_ | refine sw_guard_run ?_ | refine sc_cond_true ?_ | refine sc_cond_false ?_ | refine sc_ret ?_ | refine sq_then_ret ?_ | refine sc_skip ?_ | refine sc_block ?_ | refine sq_block ?_ | refine sq_block_ret ?_ | refine sc_exit ?_ | refine sq_then_exit ?_ | refine sq_block_exit ?_ | refine sq_block_past ?_ | refine sq_round_ret ?_ | refine sq_round_exit ?_) | (with_reducible refine sc_cond (fun h => ?_) (fun h => ?_)) <;> (try (exfalso; first | contradiction | omega | exact h Iff.rfl)) | fail)
            refine sw_cpl (by omega) ?_; repeat' (first | with_reducible (first | refine sw_in (by omega) ?_ | refine sw_op ?_ | refine sw_op_ ?_) | with_reducible (first | refine sw_nil ?_ | refine sq_then ?_ | refine sc_seq ?_ | refine sc_region ?_ | refine sw_guard_skip ?_ | refine sw_guard_skip_ ?_ | refine sw_guard_run ?_ | refine sc_cond_true ?_ | refine sc_cond_false ?_ | refine sc_ret ?_ | refine sq_then_ret ?_ | refine sc_skip ?_ | refine sc_block ?_ | refine sq_block ?_ | refine sq_block_ret ?_ | refine sc_exit ?_ | refine sq_then_exit ?_ | refine sq_block_exit ?_ | refine sq_block_past ?_ | refine sq_round_ret ?_ | refine sq_round_exit ?_) | (with_reducible refine sc_cond (fun h => ?_) (fun h => ?_)) <;> (try (exfalso; first | contradiction | omega | exact h Iff.rfl)) | fail)
            refine sw_shrP (k := .u64) 63 9223372036854775808 ⟨rfl, by decide, by omega, rfl⟩ ?_
            repeat' (first | with_reducible (first | refine sw_in (by omega) ?_ | refine sw_op ?_ | refine sw_op_ ?_) | with_reducible (first | refine sw_nil ?_ | refine sq_then ?_ | refine sc_seq ?_ | refine sc_region ?_ | refine sw_guard_skip ?_ | refine sw_guard_skip_ ?_ | refine sw_guard_run ?_ | refine sc_cond_true ?_ | refine sc_cond_false ?_ | refine sc_ret ?_ | refine sq_then_ret ?_ | refine sc_skip ?_ | refine sc_block ?_ | refine sq_block ?_ | refine sq_block_ret ?_ | refine sc_exit ?_ | refine sq_then_exit ?_ | refine sq_block_exit ?_ | refine sq_block_past ?_ | refine sq_round_ret ?_ | refine sq_round_exit ?_) | (with_reducible refine sc_cond (fun h => ?_) (fun h => ?_)) <;> (try (exfalso; first | contradiction | omega | exact h Iff.rfl)) | (with_reducible refine sw_guard_split (fun h => ?_) (fun h => ?_)) <;> (try (exfalso; first | contradiction | omega | exact h Iff.rfl)) | (with_reducible refine sw_pick (fun h => ?_) (fun h => ?_)) <;> (try (exfalso; first | contradiction | omega | exact h Iff.rfl)) | fail)
            refine sw_call (cWidth_ok (-U - 1) (by omega)) ?_
            rintro _ _ ⟨rfl, rfl⟩
            repeat' (first | with_reducible (first | refine sw_in (by omega) ?_ | refine sw_op ?_ | refine sw_op_ ?_) | with_reducible (first | refine sw_nil ?_ | refine sq_then ?_ | refine sc_seq ?_ | refine sc_region ?_ | refine sw_guard_skip ?_ | refine sw_guard_skip_ ?_ | refine sw_guard_run ?_ | refine sc_cond_true ?_ | refine sc_cond_false ?_ | refine sc_ret ?_ | refine sq_then_ret ?_ | refine sc_skip ?_ | refine sc_block ?_ | refine sq_block ?_ | refine sq_block_ret ?_ | refine sc_exit ?_ | refine sq_then_exit ?_ | refine sq_block_exit ?_ | refine sq_block_past ?_ | refine sq_round_ret ?_ | refine sq_round_exit ?_) | (with_reducible refine sc_cond (fun h => ?_) (fun h => ?_)) <;> (try (exfalso; first | contradiction | omega | exact h Iff.rfl)) | (with_reducible refine sw_guard_split (fun h => ?_) (fun h => ?_)) <;> (try (exfalso; first | contradiction | omega | exact h Iff.rfl)) | (with_reducible refine sw_pick (fun h => ?_) (fun h => ?_)) <;> (try (exfalso; first | contradiction | omega | exact h Iff.rfl)) | fail)
            · have hne : width (-U - 1) ≠ 1 + i := by omega
              rw [if_pos (Or.inr (by simpa using hne))]
              refine sq_ret3 Try.results90 ?_
              exact ⟨_, ⟨rfl, rfl⟩, Ent.refl _⟩
            · have hne : width (-U - 1) = 1 + i := by omega
              rw [if_neg (by simp; omega)]
              refine sq_ret3 Try.results90 ?_
              exact ⟨_, ⟨rfl, rfl⟩, Ent.refl _⟩
      · refine sq_ret3 Try.results90 ?_
        refine ⟨_, ⟨?_, rfl⟩, Ent.refl _⟩
        rw [takeInt_cons, if_neg (by omega), if_neg (by omega), if_neg (by omega)]
end Go.Gsl
