/- The document's codec: an int parsed, walked. -/
import Derived.Test.YtbmdaiopnnmamaaQcd3Q
namespace Go.Gsl
set_option linter.unusedVariables false
open Go.Proofs


set_option maxHeartbeats 1000000 in
theorem q1ParseInt_ok (k : Nat) (r : HProp) (v : Value) (bs : List Int) (hv : RdB r v bs) (hb : Byt bs) (hl : bs.length ≤ 140737488355328) :
    Spec Try.prog 99 [v] [k] [r] fun F w Rs' => w = .tuple #[.int .i64 (takeInt bs).1, .int .i64 (takeInt bs).2.1, .int .i64 (takeInt bs).2.2] ∧ Rs' = (k, r) :: F := by
  refine spec_of Try.func99 rfl Try.ntmps99 rfl ?_
  intro w0 F
  cases hv with
  | nil =>
    repeat' (first | with_reducible (first | refine sw_op ?_ | refine sw_op_ ?_) | with_reducible (first | refine sw_nil ?_ | refine sq_then ?_ | refine sc_seq ?_ | refine sc_region ?_ | refine sw_guard_skip ?_ | refine sw_guard_skip_ ?_ | refine sw_guard_run ?_ | refine sc_cond_true ?_ | refine sc_cond_false ?_ | refine sc_ret ?_ | refine sq_then_ret ?_ | refine sc_skip ?_ | refine sc_block ?_ | refine sq_block ?_ | refine sq_block_ret ?_ | refine sc_exit ?_ | refine sq_then_exit ?_ | refine sq_block_exit ?_ | refine sq_block_past ?_ | refine sq_round_ret ?_ | refine sq_round_exit ?_) | (with_reducible refine sc_cond (fun h => ?_) (fun h => ?_)) <;> (try (exfalso; first | contradiction | omega | exact h Iff.rfl)) | fail)
    refine sq_ret3 Try.results99 ?_
    exact ⟨_, ⟨rfl, rfl⟩, Ent.refl _⟩
  | row b o c bs hc hr =>
    cases bs with
    | nil =>
      repeat' (first | with_reducible (first | refine sw_op ?_ | refine sw_op_ ?_) | with_reducible (first | refine sw_nil ?_ | refine sq_then ?_ | refine sc_seq ?_ | refine sc_region ?_ | refine sw_guard_skip ?_ | refine sw_guard_skip_ ?_ | refine sw_guard_run ?_ | refine sc_cond_true ?_ | refine sc_cond_false ?_ | refine sc_ret ?_ | refine sq_then_ret ?_ | refine sc_skip ?_ | refine sc_block ?_ | refine sq_block ?_ | refine sq_block_ret ?_ | refine sc_exit ?_ | refine sq_then_exit ?_ | refine sq_block_exit ?_ | refine sq_block_past ?_ | refine sq_round_ret ?_ | refine sq_round_exit ?_) | (with_reducible refine sc_cond (fun h => ?_) (fun h => ?_)) <;> (try (exfalso; first | contradiction | omega | exact h Iff.rfl)) | fail)
      refine sq_ret3 Try.results99 ?_
      exact ⟨_, ⟨rfl, rfl⟩, Ent.refl _⟩
    | cons hd rest =>
      have hbh := hb hd (by simp)
      have hbr : Byt rest := fun x hx => hb x (by simp [hx])
      have hpos : 0 < (hd :: rest).length := by simp
      repeat' (first | with_reducible (first | refine sw_op ?_ | refine sw_op_ ?_) | with_reducible (first | refine sw_nil ?_ | refine sq_then ?_ | refine sc_seq ?_ | refine sc_region ?_ | refine sw_guard_skip ?_ | refine sw_guard_skip_ ?_ | refine sw_guard_run ?_ | refine sc_cond_true ?_ | refine sc_cond_false ?_ | refine sc_ret ?_ | refine sq_then_ret ?_ | refine sc_skip ?_ | refine sc_block ?_ | refine sq_block ?_ | refine sq_block_ret ?_ | refine sc_exit ?_ | refine sq_then_exit ?_ | refine sq_block_exit ?_ | refine sq_block_past ?_ | refine sq_round_ret ?_ | refine sq_round_exit ?_) | (with_reducible refine sc_cond (fun h => ?_) (fun h => ?_)) <;> (try (exfalso; first | contradiction | omega | exact h Iff.rfl)) | fail)
      refine sw_index (by omega) ?_
      repeat' (first | with_reducible (first | refine sw_op ?_ | refine sw_op_ ?_) | with_reducible (first | refine sw_nil ?_ | refine sq_then ?_ | refine sc_seq ?_ | refine sc_region ?_ | refine sw_guard_skip ?_ | refine sw_guard_skip_ ?_ | refine sw_guard_run ?_ | refine sc_cond_true ?_ | refine sc_cond_false ?_ | refine sc_ret ?_ | refine sq_then_ret ?_ | refine sc_skip ?_ | refine sc_block ?_ | refine sq_block ?_ | refine sq_block_ret ?_ | refine sc_exit ?_ | refine sq_then_exit ?_ | refine sq_block_exit ?_ | refine sq_block_past ?_ | refine sq_round_ret ?_ | refine sq_round_exit ?_) | fail)
      refine sw_load_rd k 0 (.int .u8 hd) hr rfl (by simp) ?_
      rcases (show 216 < hd ∨ (208 < hd ∧ hd ≤ 216) ∨ hd < 8 ∨ (8 ≤ hd ∧ hd ≤ 208) by omega) with h1 | h1 | h1 | h1
      · repeat' (first | with_reducible (first | refine sw_in (by omega) ?_ | refine sw_op ?_ | refine sw_op_ ?_) | with_reducible refine sw_guard_skip_u ?_ | with_reducible (first | refine sw_nil ?_ | refine sq_then ?_ | refine sc_seq ?_ | refine sc_region ?_ | refine sw_guard_skip ?_ | refine sw_guard_skip_ ?_ | refine sw_guard_run ?_ | refine sc_cond_true ?_ | refine sc_cond_false ?_ | refine sc_ret ?_ | refine sq_then_ret ?_ | refine sc_skip ?_ | refine sc_block ?_ | refine sq_block ?_ | refine sq_block_ret ?_ | refine sc_exit ?_ | refine sq_then_exit ?_ | refine sq_block_exit ?_ | refine sq_block_past ?_ | refine sq_round_ret ?_ | refine sq_round_exit ?_) | (with_reducible refine sw_guard_split (fun h => ?_) (fun h => ?_)) <;> (try (exfalso; first | contradiction | omega | exact h Iff.rfl)) | (with_reducible refine sc_cond (fun h => ?_) (fun h => ?_)) <;> (try (exfalso; first | contradiction | omega | exact h Iff.rfl)) | (with_reducible refine sw_pick (fun h => ?_) (fun h => ?_)) <;> (try (exfalso; first | contradiction | omega | exact h Iff.rfl)) | fail)
        refine sq_ret3 Try.results99 ?_
        refine ⟨_, ⟨?_, rfl⟩, Ent.refl _⟩
        rw [takeInt_cons, if_pos h1]
      · -- hd - 208: how many bytes, (fun a => a): what a byte stands for, false: negative, rw [if_neg (by omega), if_pos (by omega)]: why the head is such
        obtain ⟨K, hK⟩ : ∃ K : Nat, hd - 208 = (K : Int) := ⟨(hd - 208).toNat, by omega⟩
        have hT : takeInt (hd :: rest) = takeK K (fun a => a) false rest := by
          rw [takeInt_cons]
          rw [if_neg (by omega), if_pos (by omega)]
          rw [hK, Int.toNat_natCast]
        rw [hT]
        repeat' (first | with_reducible (first | refine sw_in (by omega) ?_ | refine sw_op ?_ | refine sw_op_ ?_) | with_reducible refine sw_guard_skip_u ?_ | with_reducible (first | refine sw_nil ?_ | refine sq_then ?_ | refine sc_seq ?_ | refine sc_region ?_ | refine sw_guard_skip ?_ | refine sw_guard_skip_ ?_ | refine sw_guard_run ?_ | refine sc_cond_true ?_ | refine sc_cond_false ?_ | refine sc_ret ?_ | refine sq_then_ret ?_ | refine sc_skip ?_ | refine sc_block ?_ | refine sq_block ?_ | refine sq_block_ret ?_ | refine sc_exit ?_ | refine sq_then_exit ?_ | refine sq_block_exit ?_ | refine sq_block_past ?_ | refine sq_round_ret ?_ | refine sq_round_exit ?_) | (with_reducible refine sw_guard_split (fun h => ?_) (fun h => ?_)) <;> (try (exfalso; first | contradiction | omega | exact h Iff.rfl)) | (with_reducible refine sc_cond (fun h => ?_) (fun h => ?_)) <;> (try (exfalso; first | contradiction | omega | exact h Iff.rfl)) | (with_reducible refine sw_pick (fun h => ?_) (fun h => ?_)) <;> (try (exfalso; first | contradiction | omega | exact h Iff.rfl)) | fail)
        · refine sq_ret3 Try.results99 ?_
          refine ⟨_, ⟨?_, rfl⟩, Ent.refl _⟩
          unfold takeK
          rw [if_pos (by simp only [List.length_cons] at h; omega)]
        have hKr : K ≤ rest.length := by
          simp only [List.length_cons] at h
          omega
        clear h
        have hK8 : 1 ≤ K ∧ K ≤ 8 := by omega
        rw [hK]
        refine sc_loop (α := { i : Nat // i ≤ K ∧ (0 < i → ∀ x, rest[0]? = some x → (fun a => a) x ≠ 0) }) (fun i => [(0, .slice (some ⟨b, o, none⟩) (hd :: rest).length c), (5, .int .i64 hd), (6, .int .i64 (K : Int)), (7, .int .u64 (ofBE ((rest.take i.1).map (fun a => a)))), (8, .int .i64 (1 + (i.1 : Int)))])
          (fun _ => (k, r) :: F) (fun i => K - i.1) ⟨0, Nat.zero_le _, fun h => absurd h (by omega)⟩ ?_ ?_ ?_
        · repeat' (first | exact says_nil | refine says_cons rfl ?_ | refine says_cons (by simp) ?_)
        · exact Ent.refl _
        rintro ⟨i, hi, hnz⟩ e
        (try simp only at hi hnz)
        simp only [List.cons_append, List.nil_append]
        have hbK : ∀ j, Byt ((rest.take j).map (fun a => a)) := fun j x hx => by
          obtain ⟨y, hy, rfl⟩ := List.mem_map.1 hx
          have := hbr y (List.mem_of_mem_take hy)
          (try simp only); omega
        have hU := ofBE_lt i ((rest.take i).map (fun a => a)) (by rw [List.length_map, List.length_take]; omega) (hbK i)
        repeat' (first | with_reducible (first | refine sw_in (by omega) ?_ | refine sw_op ?_ | refine sw_op_ ?_) | with_reducible (first | refine sw_nil ?_ | refine sq_then ?_ | refine sc_seq ?_ | refine sc_region ?_ | refine sw_guard_skip ?_ | refine sw_guard_skip_ ?_ | refine sw_guard_run ?_ | refine sc_cond_true ?_ | refine sc_cond_false ?_ | refine sc_ret ?_ | refine sq_then_ret ?_ | refine sc_skip ?_ | refine sc_block ?_ | refine sq_block ?_ | refine sq_block_ret ?_ | refine sc_exit ?_ | refine sq_then_exit ?_ | refine sq_block_exit ?_ | refine sq_block_past ?_ | refine sq_round_ret ?_ | refine sq_round_exit ?_) | (with_reducible refine sc_cond (fun h => ?_) (fun h => ?_)) <;> (try (exfalso; first | contradiction | omega | exact h Iff.rfl)) | fail)
        focus
          have hi2 : i < K := by omega
          have hp := pow_le7 (i := i) (by omega)
          have hi3 : i < rest.length := by omega
          have hri : rest[i]? = some rest[i] := List.getElem?_eq_getElem hi3
          have hbi := hbr rest[i] (List.getElem_mem hi3)
          have hsn : ofBE ((rest.take (i + 1)).map (fun a => a)) = ofBE ((rest.take i).map (fun a => a)) * 256 + (fun a => a) rest[i] := by
            rw [List.take_add_one, hri, Option.toList_some, List.map_append, List.map_singleton, ofBE_snoc]
          refine sw_index (by simp only [List.length_cons]; omega) ?_
          refine sw_load_rd k (1 + i) (.int .u8 rest[i]) hr (by rw [Nat.add_comm, List.map_cons, List.getElem?_cons_succ, List.getElem?_map, hri]; rfl) (by simp; omega) ?_
          have hz0 : i = 0 → (fun a => a) rest[i] = 0 → takeK K (fun a => a) false rest = (0, 0, 11) := fun h0 hz => by
            subst h0
            obtain ⟨x, r', rfl⟩ : ∃ x r', rest = x :: r' := by
              cases rest with
              | nil => simp at hi3
              | cons x r' => exact ⟨x, r', rfl⟩
            exact takeK_zero hKr hK8 (hbK K) hz
          generalize rest[i] = y at *
          (try simp only at hsn hz0)
          repeat' (first | with_reducible (first | refine sw_in (by omega) ?_ | refine sw_op ?_ | refine sw_op_ ?_) | with_reducible refine sw_guard_skip_u ?_ | with_reducible (first | refine sw_nil ?_ | refine sq_then ?_ | refine sc_seq ?_ | refine sc_region ?_ | refine sw_guard_skip ?_ | refine sw_guard_skip_ ?_ | refine sw_guard_run ?_ | refine sc_cond_true ?_ | refine sc_cond_false ?_ | refine sc_ret ?_ | refine sq_then_ret ?_ | refine sc_skip ?_ | refine sc_block ?_ | refine sq_block ?_ | refine sq_block_ret ?_ | refine sc_exit ?_ | refine sq_then_exit ?_ | refine sq_block_exit ?_ | refine sq_block_past ?_ | refine sq_round_ret ?_ | refine sq_round_exit ?_) | (with_reducible refine sw_guard_split (fun h => ?_) (fun h => ?_)) <;> (try (exfalso; first | contradiction | omega | exact h Iff.rfl)) | (with_reducible refine sc_cond (fun h => ?_) (fun h => ?_)) <;> (try (exfalso; first | contradiction | omega | exact h Iff.rfl)) | (with_reducible refine sw_pick (fun h => ?_) (fun h => ?_)) <;> (try (exfalso; first | contradiction | omega | exact h Iff.rfl)) | fail)
          · refine sq_ret3 Try.results99 ?_
            refine ⟨_, ⟨?_, rfl⟩, Ent.refl _⟩
            rw [hz0 (by omega) (by omega)]
          all_goals
            rw [← hsn]
            refine sq_round ⟨i + 1, by omega, fun _ x hx => ?_⟩ ?_ ?_ ?_
            · rcases Nat.eq_zero_or_pos i with h0 | h0
              · subst h0
                rw [hri] at hx
                injection hx with hx
                subst hx
                (try simp only)
                omega
              · exact hnz h0 x hx
            · show K - (i + 1) < K - i
              omega
            · repeat' (first | exact says_nil | refine says_cons rfl ?_ | refine says_cons (by simp) ?_)
            · exact Ent.refl _
        · have hiK : i = K := by omega
          subst hiK
          refine sq_ret3 Try.results99 ?_
          refine ⟨_, ⟨?_, rfl⟩, Ent.refl _⟩
          rw [takeK_bad hKr (.inl (by assumption))]
        have hiK : i = K := by omega
        subst hiK
        obtain ⟨x, r', rfl⟩ : ∃ x r', rest = x :: r' := by
          cases rest with
          | nil => simp at hKr; omega
          | cons x r' => exact ⟨x, r', rfl⟩
        have hx0 := hnz (by omega) x rfl
        have hp := pow_le8 (i := i) (by omega)
        generalize hV : ofBE (((x :: r').take i).map (fun a => a)) = V at *
        have hsm : V ≤ 9223372036854775807 := by omega
        have hgood := fun hs => takeK_big (neg := false) hKr hK8 (hbK i) hx0 hV hsm hs
        have hbad := takeK_small (neg := false) hKr hK8.1 hV
        have hsg : sg false V = V := by unfold sg; first | rfl | (simp; omega)
        rw [hsg] at hgood hbad
        repeat' (first | with_reducible (first | refine sw_in (by omega) ?_ | refine sw_op ?_ | refine sw_op_ ?_) | with_reducible refine sw_guard_skip_u ?_ | with_reducible (first | refine sw_nil ?_ | refine sq_then ?_ | refine sc_seq ?_ | refine sc_region ?_ | refine sw_guard_skip ?_ | refine sw_guard_skip_ ?_ | refine sw_guard_run ?_ | refine sc_cond_true ?_ | refine sc_cond_false ?_ | refine sc_ret ?_ | refine sq_then_ret ?_ | refine sc_skip ?_ | refine sc_block ?_ | refine sq_block ?_ | refine sq_block_ret ?_ | refine sc_exit ?_ | refine sq_then_exit ?_ | refine sq_block_exit ?_ | refine sq_block_past ?_ | refine sq_round_ret ?_ | refine sq_round_exit ?_) | (with_reducible refine sw_guard_split (fun h => ?_) (fun h => ?_)) <;> (try (exfalso; first | contradiction | omega | exact h Iff.rfl)) | (with_reducible refine sc_cond (fun h => ?_) (fun h => ?_)) <;> (try (exfalso; first | contradiction | omega | exact h Iff.rfl)) | (with_reducible refine sw_pick (fun h => ?_) (fun h => ?_)) <;> (try (exfalso; first | contradiction | omega | exact h Iff.rfl)) | fail)
        · refine sq_ret3 Try.results99 ?_
          refine ⟨_, ⟨?_, rfl⟩, Ent.refl _⟩
          rw [hbad (by omega)]
        all_goals
          refine sq_ret3 Try.results99 ?_
          refine ⟨_, ⟨?_, rfl⟩, Ent.refl _⟩
          rw [hgood (by omega)]
      · -- 8 - hd: how many bytes, (fun a => 255 - a): what a byte stands for, true: negative, rw [if_neg (by omega), if_neg (by omega), if_pos (by omega)]: why the head is such
        obtain ⟨K, hK⟩ : ∃ K : Nat, 8 - hd = (K : Int) := ⟨(8 - hd).toNat, by omega⟩
        have hT : takeInt (hd :: rest) = takeK K (fun a => 255 - a) true rest := by
          rw [takeInt_cons]
          rw [if_neg (by omega), if_neg (by omega), if_pos (by omega)]
          rw [hK, Int.toNat_natCast]
        rw [hT]
        repeat' (first | with_reducible (first | refine sw_in (by omega) ?_ | refine sw_op ?_ | refine sw_op_ ?_) | with_reducible refine sw_guard_skip_u ?_ | with_reducible (first | refine sw_nil ?_ | refine sq_then ?_ | refine sc_seq ?_ | refine sc_region ?_ | refine sw_guard_skip ?_ | refine sw_guard_skip_ ?_ | refine sw_guard_run ?_ | refine sc_cond_true ?_ | refine sc_cond_false ?_ | refine sc_ret ?_ | refine sq_then_ret ?_ | refine sc_skip ?_ | refine sc_block ?_ | refine sq_block ?_ | refine sq_block_ret ?_ | refine sc_exit ?_ | refine sq_then_exit ?_ | refine sq_block_exit ?_ | refine sq_block_past ?_ | refine sq_round_ret ?_ | refine sq_round_exit ?_) | (with_reducible refine sw_guard_split (fun h => ?_) (fun h => ?_)) <;> (try (exfalso; first | contradiction | omega | exact h Iff.rfl)) | (with_reducible refine sc_cond (fun h => ?_) (fun h => ?_)) <;> (try (exfalso; first | contradiction | omega | exact h Iff.rfl)) | (with_reducible refine sw_pick (fun h => ?_) (fun h => ?_)) <;> (try (exfalso; first | contradiction | omega | exact h Iff.rfl)) | fail)
        · refine sq_ret3 Try.results99 ?_
          refine ⟨_, ⟨?_, rfl⟩, Ent.refl _⟩
          unfold takeK
          rw [if_pos (by simp only [List.length_cons] at h; omega)]
        have hKr : K ≤ rest.length := by
          simp only [List.length_cons] at h
          omega
        clear h
        have hK8 : 1 ≤ K ∧ K ≤ 8 := by omega
        rw [hK]
        refine sc_loop (α := { i : Nat // i ≤ K ∧ (0 < i → ∀ x, rest[0]? = some x → (fun a => 255 - a) x ≠ 0) }) (fun i => [(0, .slice (some ⟨b, o, none⟩) (hd :: rest).length c), (5, .int .i64 hd), (6, .int .i64 (K : Int)), (7, .int .u64 (ofBE ((rest.take i.1).map (fun a => 255 - a)))), (8, .int .i64 (1 + (i.1 : Int)))])
          (fun _ => (k, r) :: F) (fun i => K - i.1) ⟨0, Nat.zero_le _, fun h => absurd h (by omega)⟩ ?_ ?_ ?_
        · repeat' (first | exact says_nil | refine says_cons rfl ?_ | refine says_cons (by simp) ?_)
        · exact Ent.refl _
        rintro ⟨i, hi, hnz⟩ e
        (try simp only at hi hnz)
        simp only [List.cons_append, List.nil_append]
        have hbK : ∀ j, Byt ((rest.take j).map (fun a => 255 - a)) := fun j x hx => by
          obtain ⟨y, hy, rfl⟩ := List.mem_map.1 hx
          have := hbr y (List.mem_of_mem_take hy)
          (try simp only); omega
        have hU := ofBE_lt i ((rest.take i).map (fun a => 255 - a)) (by rw [List.length_map, List.length_take]; omega) (hbK i)
        repeat' (first | with_reducible (first | refine sw_in (by omega) ?_ | refine sw_op ?_ | refine sw_op_ ?_) | with_reducible (first | refine sw_nil ?_ | refine sq_then ?_ | refine sc_seq ?_ | refine sc_region ?_ | refine sw_guard_skip ?_ | refine sw_guard_skip_ ?_ | refine sw_guard_run ?_ | refine sc_cond_true ?_ | refine sc_cond_false ?_ | refine sc_ret ?_ | refine sq_then_ret ?_ | refine sc_skip ?_ | refine sc_block ?_ | refine sq_block ?_ | refine sq_block_ret ?_ | refine sc_exit ?_ | refine sq_then_exit ?_ | refine sq_block_exit ?_ | refine sq_block_past ?_ | refine sq_round_ret ?_ | refine sq_round_exit ?_) | (with_reducible refine sc_cond (fun h => ?_) (fun h => ?_)) <;> (try (exfalso; first | contradiction | omega | exact h Iff.rfl)) | fail)
        focus
          have hi2 : i < K := by omega
          have hp := pow_le7 (i := i) (by omega)
          have hi3 : i < rest.length := by omega
          have hri : rest[i]? = some rest[i] := List.getElem?_eq_getElem hi3
          have hbi := hbr rest[i] (List.getElem_mem hi3)
          have hsn : ofBE ((rest.take (i + 1)).map (fun a => 255 - a)) = ofBE ((rest.take i).map (fun a => 255 - a)) * 256 + (fun a => 255 - a) rest[i] := by
            rw [List.take_add_one, hri, Option.toList_some, List.map_append, List.map_singleton, ofBE_snoc]
          refine sw_index (by simp only [List.length_cons]; omega) ?_
          refine sw_load_rd k (1 + i) (.int .u8 rest[i]) hr (by rw [Nat.add_comm, List.map_cons, List.getElem?_cons_succ, List.getElem?_map, hri]; rfl) (by simp; omega) ?_
          have hz0 : i = 0 → (fun a => 255 - a) rest[i] = 0 → takeK K (fun a => 255 - a) true rest = (0, 0, 11) := fun h0 hz => by
            subst h0
            obtain ⟨x, r', rfl⟩ : ∃ x r', rest = x :: r' := by
              cases rest with
              | nil => simp at hi3
              | cons x r' => exact ⟨x, r', rfl⟩
            exact takeK_zero hKr hK8 (hbK K) hz
          generalize rest[i] = y at *
          (try simp only at hsn hz0)
          repeat' (first | with_reducible (first | refine sw_in (by omega) ?_ | refine sw_op ?_ | refine sw_op_ ?_) | with_reducible refine sw_guard_skip_u ?_ | with_reducible (first | refine sw_nil ?_ | refine sq_then ?_ | refine sc_seq ?_ | refine sc_region ?_ | refine sw_guard_skip ?_ | refine sw_guard_skip_ ?_ | refine sw_guard_run ?_ | refine sc_cond_true ?_ | refine sc_cond_false ?_ | refine sc_ret ?_ | refine sq_then_ret ?_ | refine sc_skip ?_ | refine sc_block ?_ | refine sq_block ?_ | refine sq_block_ret ?_ | refine sc_exit ?_ | refine sq_then_exit ?_ | refine sq_block_exit ?_ | refine sq_block_past ?_ | refine sq_round_ret ?_ | refine sq_round_exit ?_) | (with_reducible refine sw_guard_split (fun h => ?_) (fun h => ?_)) <;> (try (exfalso; first | contradiction | omega | exact h Iff.rfl)) | (with_reducible refine sc_cond (fun h => ?_) (fun h => ?_)) <;> (try (exfalso; first | contradiction | omega | exact h Iff.rfl)) | (with_reducible refine sw_pick (fun h => ?_) (fun h => ?_)) <;> (try (exfalso; first | contradiction | omega | exact h Iff.rfl)) | fail)
          · refine sq_ret3 Try.results99 ?_
            refine ⟨_, ⟨?_, rfl⟩, Ent.refl _⟩
            rw [hz0 (by omega) (by omega)]
          all_goals
            rw [← hsn]
            refine sq_round ⟨i + 1, by omega, fun _ x hx => ?_⟩ ?_ ?_ ?_
            · rcases Nat.eq_zero_or_pos i with h0 | h0
              · subst h0
                rw [hri] at hx
                injection hx with hx
                subst hx
                (try simp only)
                omega
              · exact hnz h0 x hx
            · show K - (i + 1) < K - i
              omega
            · repeat' (first | exact says_nil | refine says_cons rfl ?_ | refine says_cons (by simp) ?_)
            · exact Ent.refl _
        · have hiK : i = K := by omega
          subst hiK
          refine sq_ret3 Try.results99 ?_
          refine ⟨_, ⟨?_, rfl⟩, Ent.refl _⟩
          rw [takeK_bad hKr (.inl (by assumption))]
        have hiK : i = K := by omega
        subst hiK
        obtain ⟨x, r', rfl⟩ : ∃ x r', rest = x :: r' := by
          cases rest with
          | nil => simp at hKr; omega
          | cons x r' => exact ⟨x, r', rfl⟩
        have hx0 := hnz (by omega) x rfl
        have hp := pow_le8 (i := i) (by omega)
        generalize hV : ofBE (((x :: r').take i).map (fun a => 255 - a)) = V at *
        have hsm : V ≤ 9223372036854775807 := by omega
        have hgood := fun hs => takeK_big (neg := true) hKr hK8 (hbK i) hx0 hV hsm hs
        have hbad := takeK_small (neg := true) hKr hK8.1 hV
        have hsg : sg true V = -1 - V := by unfold sg; first | rfl | (simp; omega)
        rw [hsg] at hgood hbad
        repeat' (first | with_reducible (first | refine sw_in (by omega) ?_ | refine sw_op ?_ | refine sw_op_ ?_) | with_reducible refine sw_guard_skip_u ?_ | with_reducible (first | refine sw_nil ?_ | refine sq_then ?_ | refine sc_seq ?_ | refine sc_region ?_ | refine sw_guard_skip ?_ | refine sw_guard_skip_ ?_ | refine sw_guard_run ?_ | refine sc_cond_true ?_ | refine sc_cond_false ?_ | refine sc_ret ?_ | refine sq_then_ret ?_ | refine sc_skip ?_ | refine sc_block ?_ | refine sq_block ?_ | refine sq_block_ret ?_ | refine sc_exit ?_ | refine sq_then_exit ?_ | refine sq_block_exit ?_ | refine sq_block_past ?_ | refine sq_round_ret ?_ | refine sq_round_exit ?_) | (with_reducible refine sw_guard_split (fun h => ?_) (fun h => ?_)) <;> (try (exfalso; first | contradiction | omega | exact h Iff.rfl)) | (with_reducible refine sc_cond (fun h => ?_) (fun h => ?_)) <;> (try (exfalso; first | contradiction | omega | exact h Iff.rfl)) | (with_reducible refine sw_pick (fun h => ?_) (fun h => ?_)) <;> (try (exfalso; first | contradiction | omega | exact h Iff.rfl)) | fail)
        · refine sq_ret3 Try.results99 ?_
          refine ⟨_, ⟨?_, rfl⟩, Ent.refl _⟩
          rw [hbad (by omega)]
        all_goals
          refine sq_ret3 Try.results99 ?_
          refine ⟨_, ⟨?_, rfl⟩, Ent.refl _⟩
          rw [hgood (by omega)]
      · repeat' (first | with_reducible (first | refine sw_in (by omega) ?_ | refine sw_op ?_ | refine sw_op_ ?_) | with_reducible refine sw_guard_skip_u ?_ | with_reducible (first | refine sw_nil ?_ | refine sq_then ?_ | refine sc_seq ?_ | refine sc_region ?_ | refine sw_guard_skip ?_ | refine sw_guard_skip_ ?_ | refine sw_guard_run ?_ | refine sc_cond_true ?_ | refine sc_cond_false ?_ | refine sc_ret ?_ | refine sq_then_ret ?_ | refine sc_skip ?_ | refine sc_block ?_ | refine sq_block ?_ | refine sq_block_ret ?_ | refine sc_exit ?_ | refine sq_then_exit ?_ | refine sq_block_exit ?_ | refine sq_block_past ?_ | refine sq_round_ret ?_ | refine sq_round_exit ?_) | (with_reducible refine sw_guard_split (fun h => ?_) (fun h => ?_)) <;> (try (exfalso; first | contradiction | omega | exact h Iff.rfl)) | (with_reducible refine sc_cond (fun h => ?_) (fun h => ?_)) <;> (try (exfalso; first | contradiction | omega | exact h Iff.rfl)) | (with_reducible refine sw_pick (fun h => ?_) (fun h => ?_)) <;> (try (exfalso; first | contradiction | omega | exact h Iff.rfl)) | fail)
        refine sq_ret3 Try.results99 ?_
        refine ⟨_, ⟨?_, rfl⟩, Ent.refl _⟩
        rw [takeInt_cons, if_neg (by omega), if_neg (by omega), if_neg (by omega)]
end Go.Gsl
