/- Masters: read from bytes. -/
import Derived.Test.YtbmdaiopnnmamaaRec2
namespace Go.Gsl
set_option linter.unusedVariables false
open Go.Proofs

/-- a reader's next int -/
def num (bs : List Int) (st : Nat × Int) : Int × Nat × Int :=
  if st.2 ≠ 0 then (0, st) else if (takeInt (bs.drop st.1)).2.2 ≠ 0 then (0, st.1, (takeInt (bs.drop st.1)).2.2)
  else ((takeInt (bs.drop st.1)).1, st.1 + (takeInt (bs.drop st.1)).2.1.toNat, 0)
theorem num_ok {bs : List Int} (hb : Byt bs) {st : Nat × Int} (h : st.1 ≤ bs.length) : (num bs st).2.1 ≤ bs.length ∧ I64 (num bs st).1 := by
  have hbd : Byt (bs.drop st.1) := fun x hx => hb x (List.mem_of_mem_drop hx)
  unfold num
  split
  · exact ⟨h, by unfold I64; omega⟩
  · split
    · exact ⟨h, by unfold I64; omega⟩
    · rename_i h1 h2
      have := takeInt_ok hbd (by omega)
      rw [List.length_drop] at this
      exact ⟨by simp only; omega, this.2.2.2⟩

/-- a reader in bytes -/
abbrev Rdr (v : Value) (st : Nat × Int) : List Value := [v, .int .i64 st.1, .int .i64 st.2]

theorem RdB.tail {r : HProp} {b o c : Nat} {bs : List Int} (hc : bs.length ≤ c) (hr : Reads r (some ⟨b, o, none⟩) (bs.map (Value.int .u8))) (at' : Nat) (h : at' ≤ bs.length) : RdB r (.slice (some ⟨b, if c = at' then o else o + at', none⟩) (bs.length - at') (c - at')) (bs.drop at') := by
  rw [← List.length_drop]
  refine .row b _ (c - at') _ (by rw [List.length_drop]; omega) ?_
  split
  · rw [List.drop_eq_nil_of_le (by omega)]
    exact reads_nil _ _
  · refine hr.shift at' fun j v hj => ?_
    rwa [List.getElem?_map, List.getElem?_drop, ← List.getElem?_map] at hj

set_option maxHeartbeats 1000000 in
theorem rcNext_ok (p k : Nat) (r : HProp) (b o c : Nat) (bs : List Int) (st : Nat × Int) (hc : bs.length ≤ c) (hr : Reads r (some ⟨b, o, none⟩) (bs.map (Value.int .u8))) (hb : Byt bs) (hl : bs.length ≤ 70368744177664) (hst : st.1 ≤ bs.length) :
    Spec Try.prog 107 [.pointer (some ⟨p, 0, none⟩), .func (.func 90) #[] #[]] [p, k] [pts p (.cells (Rdr (.slice (some ⟨b, o, none⟩) bs.length c) st).toArray 141 (0, 0)), r]
    fun F w Rs' => w = .int .i64 (num bs st).1 ∧ Rs' = (p, pts p (.cells (Rdr (.slice (some ⟨b, o, none⟩) bs.length c) (num bs st).2).toArray 141 (0, 0))) :: (k, r) :: F := by
  refine spec_of Try.func107 rfl Try.ntmps107 rfl ?_
  intro w0 F
  have hbd : Byt (bs.drop st.1) := fun x hx => hb x (List.mem_of_mem_drop hx)
  have htk := takeInt_ok hbd
  have hld : (bs.drop st.1).length = bs.length - st.1 := List.length_drop
  unfold num
  repeat' (first | with_reducible (first | refine sw_op ?_ | refine sw_op_ ?_) | with_reducible (first | refine sw_nil ?_ | refine sq_then ?_ | refine sc_seq ?_ | refine sc_region ?_ | refine sw_guard_skip ?_ | refine sw_guard_skip_ ?_ | refine sw_guard_run ?_ | refine sc_cond_true ?_ | refine sc_cond_false ?_ | refine sc_ret ?_ | refine sq_then_ret ?_ | refine sc_skip ?_ | refine sc_block ?_ | refine sq_block ?_ | refine sq_block_ret ?_ | refine sc_exit ?_ | refine sq_then_exit ?_ | refine sq_block_exit ?_ | refine sq_block_past ?_ | refine sq_round_ret ?_ | refine sq_round_exit ?_) | (with_reducible refine sc_cond (fun h => ?_) (fun h => ?_)) <;> (try (exfalso; first | contradiction | omega | exact h Iff.rfl)) | fail)
  · rw [if_pos h]
    refine sq_ret1 Try.results107 ?_
    exact ⟨_, ⟨rfl, rfl⟩, Ent.refl _⟩
  have hst2 : st.2 = 0 := by omega
  rw [if_neg h]
  obtain ⟨at', e'⟩ := st
  simp only at hbd htk hld hst hst2 ⊢
  subst hst2
  have hsub := RdB.tail hc hr at' hst
  refine sc_drawC (m := 18) ([(p, pts p (.cells (Rdr (.slice (some ⟨b, o, none⟩) bs.length c) (at', 0)).toArray 141 (0, 0)))]) (by repeat' (first | with_reducible exact calm_post | with_reducible refine Calm.then ?_ | with_reducible refine Calm.block ?_ | with_reducible refine Calm.round ?_ | with_reducible refine Calm.mark ?_)) (by kernel_rfl) rfl (fun hcalm => ?_)
  all_goals (first | refine sg_take 0 hcalm rfl (by kernel_rfl) (by kernel_rfl) (by kernel_rfl) ?_)
  all_goals (first | refine sg_take 1 hcalm rfl (by kernel_rfl) (by kernel_rfl) (by kernel_rfl) ?_)
  all_goals (first | refine sg_take 2 hcalm rfl (by kernel_rfl) (by kernel_rfl) (by kernel_rfl) ?_)
  all_goals (first | refine sg_take 3 hcalm rfl (by kernel_rfl) (by kernel_rfl) (by kernel_rfl) ?_)
  all_goals (first | refine sg_take 4 hcalm rfl (by kernel_rfl) (by kernel_rfl) (by kernel_rfl) ?_)
  all_goals (first | refine sg_take 5 hcalm rfl (by kernel_rfl) (by kernel_rfl) (by kernel_rfl) ?_)
  all_goals (first | refine sg_take 6 hcalm rfl (by kernel_rfl) (by kernel_rfl) (by kernel_rfl) ?_)
  all_goals (first | refine sg_take 7 hcalm rfl (by kernel_rfl) (by kernel_rfl) (by kernel_rfl) ?_)
  all_goals (first | refine sg_take 8 hcalm rfl (by kernel_rfl) (by kernel_rfl) (by kernel_rfl) ?_)
  all_goals (first | refine sg_take 9 hcalm rfl (by kernel_rfl) (by kernel_rfl) (by kernel_rfl) (h := runop_slice at' bs.length c (if c = at' then o else o + at') (by omega) ⟨rfl, rfl, rfl, rfl⟩) ?_ | refine sg_take 9 hcalm rfl (by kernel_rfl) (by kernel_rfl) (by kernel_rfl) ?_)
  all_goals (refine sg_one 10 rfl (by kernel_rfl) rfl ?_)
  all_goals (repeat' (first | with_reducible (first | refine sw_op ?_ | refine sw_op_ ?_) | ((with_reducible refine sw_callf (cInt_ok k r _ (bs.drop at') hsub hbd (by omega)) ?_); rintro _ _ ⟨rfl, rfl⟩) | with_reducible refine sg_back ?_ | with_reducible (first | refine sw_nil ?_ | refine sq_then ?_ | refine sc_seq ?_ | refine sc_region ?_ | refine sw_guard_skip ?_ | refine sw_guard_skip_ ?_ | refine sw_guard_run ?_ | refine sc_cond_true ?_ | refine sc_cond_false ?_ | refine sc_ret ?_ | refine sq_then_ret ?_ | refine sc_skip ?_ | refine sc_block ?_ | refine sq_block ?_ | refine sq_block_ret ?_ | refine sc_exit ?_ | refine sq_then_exit ?_ | refine sq_block_exit ?_ | refine sq_block_past ?_ | refine sq_round_ret ?_ | refine sq_round_exit ?_) | fail))
  all_goals (first | refine sg_take 11 hcalm rfl (by kernel_rfl) (by kernel_rfl) (by kernel_rfl) ?_)
  all_goals (first | refine sg_take 12 hcalm rfl (by kernel_rfl) (by kernel_rfl) (by kernel_rfl) ?_)
  all_goals (first | refine sg_take 13 hcalm rfl (by kernel_rfl) (by kernel_rfl) (by kernel_rfl) ?_)
  all_goals (first | refine sg_take 14 hcalm rfl (by kernel_rfl) (by kernel_rfl) (by kernel_rfl) ?_)
  all_goals (first | refine sg_take 15 hcalm rfl (by kernel_rfl) (by kernel_rfl) (by kernel_rfl) ?_)
  all_goals (first | refine sg_take 16 hcalm rfl (by kernel_rfl) (by kernel_rfl) (by kernel_rfl) ?_)
  all_goals (first | refine sg_take 17 hcalm rfl (by kernel_rfl) (by kernel_rfl) (by kernel_rfl) ?_)
  all_goals (refine sg_done (by kernel_rfl) rfl ?_)
  generalize takeInt (bs.drop at') = T at htk ⊢
  rcases T with ⟨n, K, e⟩
  simp only at htk ⊢
  repeat' (first | with_reducible (first | refine sw_op ?_ | refine sw_op_ ?_) | with_reducible (first | refine sw_nil ?_ | refine sq_then ?_ | refine sc_seq ?_ | refine sc_region ?_ | refine sw_guard_skip ?_ | refine sw_guard_skip_ ?_ | refine sw_guard_run ?_ | refine sc_cond_true ?_ | refine sc_cond_false ?_ | refine sc_ret ?_ | refine sq_then_ret ?_ | refine sc_skip ?_ | refine sc_block ?_ | refine sq_block ?_ | refine sq_block_ret ?_ | refine sc_exit ?_ | refine sq_then_exit ?_ | refine sq_block_exit ?_ | refine sq_block_past ?_ | refine sq_round_ret ?_ | refine sq_round_exit ?_) | (with_reducible refine sc_cond (fun h => ?_) (fun h => ?_)) <;> (try (exfalso; first | contradiction | omega | exact h Iff.rfl)) | fail)
  · rw [if_pos h]
    refine sw_store ?_
    repeat' (first | with_reducible (first | refine sw_op ?_ | refine sw_op_ ?_) | with_reducible (first | refine sw_nil ?_ | refine sq_then ?_ | refine sc_seq ?_ | refine sc_region ?_ | refine sw_guard_skip ?_ | refine sw_guard_skip_ ?_ | refine sw_guard_run ?_ | refine sc_cond_true ?_ | refine sc_cond_false ?_ | refine sc_ret ?_ | refine sq_then_ret ?_ | refine sc_skip ?_ | refine sc_block ?_ | refine sq_block ?_ | refine sq_block_ret ?_ | refine sc_exit ?_ | refine sq_then_exit ?_ | refine sq_block_exit ?_ | refine sq_block_past ?_ | refine sq_round_ret ?_ | refine sq_round_exit ?_) | fail)
    refine sq_ret1 Try.results107 ?_
    exact ⟨_, ⟨rfl, rfl⟩, Ent.refl _⟩
  · rw [if_neg h]
    obtain ⟨h1, h2, h3, _⟩ := htk (by omega)
    dsimp only [Rdr]
    have hK : (at' : Int) + K = ((at' + K.toNat : Nat) : Int) := by omega
    rw [hK, IntWalk.i64_in _ (by omega)]
    refine sw_store ?_
    repeat' (first | with_reducible (first | refine sw_op ?_ | refine sw_op_ ?_) | with_reducible (first | refine sw_nil ?_ | refine sq_then ?_ | refine sc_seq ?_ | refine sc_region ?_ | refine sw_guard_skip ?_ | refine sw_guard_skip_ ?_ | refine sw_guard_run ?_ | refine sc_cond_true ?_ | refine sc_cond_false ?_ | refine sc_ret ?_ | refine sq_then_ret ?_ | refine sc_skip ?_ | refine sc_block ?_ | refine sq_block ?_ | refine sq_block_ret ?_ | refine sc_exit ?_ | refine sq_then_exit ?_ | refine sq_block_exit ?_ | refine sq_block_past ?_ | refine sq_round_ret ?_ | refine sq_round_exit ?_) | fail)
    refine sq_ret1 Try.results107 ?_
    exact ⟨_, ⟨rfl, rfl⟩, Ent.refl _⟩

theorem rcNum_ok (p k : Nat) (r : HProp) (b o c : Nat) (bs : List Int) (st : Nat × Int) (hc : bs.length ≤ c) (hr : Reads r (some ⟨b, o, none⟩) (bs.map (Value.int .u8))) (hb : Byt bs) (hl : bs.length ≤ 70368744177664) (hst : st.1 ≤ bs.length) :
    Spec Try.prog 91 [.pointer (some ⟨p, 0, none⟩)] [p, k] [pts p (.cells (Rdr (.slice (some ⟨b, o, none⟩) bs.length c) st).toArray 141 (0, 0)), r]
    fun F w Rs' => w = .int .i64 (num bs st).1 ∧ Rs' = (p, pts p (.cells (Rdr (.slice (some ⟨b, o, none⟩) bs.length c) (num bs st).2).toArray 141 (0, 0))) :: (k, r) :: F := by
  refine spec_of Try.func91 rfl Try.ntmps91 rfl ?_
  intro w0 F
  repeat' (first | with_reducible (first | refine sw_op ?_ | refine sw_op_ ?_) | ((with_reducible refine sw_call (rcNext_ok p k r b o c bs st hc hr hb hl hst) ?_); rintro _ _ ⟨rfl, rfl⟩) | with_reducible (first | refine sw_nil ?_ | refine sq_then ?_ | refine sc_seq ?_ | refine sc_region ?_ | refine sw_guard_skip ?_ | refine sw_guard_skip_ ?_ | refine sw_guard_run ?_ | refine sc_cond_true ?_ | refine sc_cond_false ?_ | refine sc_ret ?_ | refine sq_then_ret ?_ | refine sc_skip ?_ | refine sc_block ?_ | refine sq_block ?_ | refine sq_block_ret ?_ | refine sc_exit ?_ | refine sq_then_exit ?_ | refine sq_block_exit ?_ | refine sq_block_past ?_ | refine sq_round_ret ?_ | refine sq_round_exit ?_) | fail)
  refine sq_ret1 Try.results91 ?_
  exact ⟨_, ⟨rfl, rfl⟩, Ent.refl _⟩

/-- what a reader says at the end -/
def endE (len : Nat) (chk : Int) (st : Nat × Int) : Int := if st.2 ≠ 0 then st.2 else if st.1 < len then 13 else chk

theorem rcEnds_ok (p : Nat) (v : Value) (b o c : Nat) (len : Nat) (st : Nat × Int) (m : Ms) (hv : v = .slice (some ⟨b, o, none⟩) len c) :
    Spec Try.prog 92 [.pointer (some ⟨p, 0, none⟩), .iface 135 (.agg m.cs.toArray)] [p] [pts p (.cells (Rdr v st).toArray 141 (0, 0))]
    fun F w Rs' => w = .int .i64 (endE len m.chk st) ∧ Rs' = F := by
  subst hv
  obtain ⟨at', e'⟩ := st
  refine spec_of Try.func92 rfl Try.ntmps92 rfl ?_
  intro w0 F
  unfold endE
  simp only
  repeat' (first | with_reducible (first | refine sw_op ?_ | refine sw_op_ ?_) | with_reducible (first | refine sw_nil ?_ | refine sq_then ?_ | refine sc_seq ?_ | refine sc_region ?_ | refine sw_guard_skip ?_ | refine sw_guard_skip_ ?_ | refine sw_guard_run ?_ | refine sc_cond_true ?_ | refine sc_cond_false ?_ | refine sc_ret ?_ | refine sq_then_ret ?_ | refine sc_skip ?_ | refine sc_block ?_ | refine sq_block ?_ | refine sq_block_ret ?_ | refine sc_exit ?_ | refine sq_then_exit ?_ | refine sq_block_exit ?_ | refine sq_block_past ?_ | refine sq_round_ret ?_ | refine sq_round_exit ?_) | (with_reducible refine sc_cond (fun h => ?_) (fun h => ?_)) <;> (try (exfalso; first | contradiction | omega | exact h Iff.rfl)) | fail)
  · have he : e' = 0 := by omega
    subst he
    refine sc_drawC (m := 10) ([(p, pts p (.cells (Rdr (.slice (some ⟨b, o, none⟩) len c) (at', 0)).toArray 141 (0, 0)))]) (by repeat' (first | with_reducible exact calm_post | with_reducible refine Calm.then ?_ | with_reducible refine Calm.block ?_ | with_reducible refine Calm.round ?_ | with_reducible refine Calm.mark ?_)) (by kernel_rfl) rfl (fun hcalm => ?_)
    all_goals (first | refine sg_take 0 hcalm rfl (by kernel_rfl) (by kernel_rfl) (by kernel_rfl) ?_)
    all_goals (first | refine sg_take 1 hcalm rfl (by kernel_rfl) (by kernel_rfl) (by kernel_rfl) ?_)
    all_goals (first | refine sg_take 2 hcalm rfl (by kernel_rfl) (by kernel_rfl) (by kernel_rfl) ?_)
    all_goals (first | refine sg_take 3 hcalm rfl (by kernel_rfl) (by kernel_rfl) (by kernel_rfl) ?_)
    all_goals (first | refine sg_take 4 hcalm rfl (by kernel_rfl) (by kernel_rfl) (by kernel_rfl) ?_)
    all_goals (first | refine sg_take 5 hcalm rfl (by kernel_rfl) (by kernel_rfl) (by kernel_rfl) ?_)
    all_goals (first | refine sg_take 6 hcalm rfl (by kernel_rfl) (by kernel_rfl) (by kernel_rfl) ?_)
    all_goals (first | refine sg_take 7 hcalm rfl (by kernel_rfl) (by kernel_rfl) (by kernel_rfl) ?_)
    all_goals (first | refine sg_take 8 hcalm rfl (by kernel_rfl) (by kernel_rfl) (by kernel_rfl) ?_)
    all_goals (first | refine sg_take 9 hcalm rfl (by kernel_rfl) (by kernel_rfl) (by kernel_rfl) ?_)
    all_goals (refine sg_done (by kernel_rfl) rfl ?_)
    repeat' (first | with_reducible (first | refine sw_op ?_ | refine sw_op_ ?_) | with_reducible (first | refine sw_nil ?_ | refine sq_then ?_ | refine sc_seq ?_ | refine sc_region ?_ | refine sw_guard_skip ?_ | refine sw_guard_skip_ ?_ | refine sw_guard_run ?_ | refine sc_cond_true ?_ | refine sc_cond_false ?_ | refine sc_ret ?_ | refine sq_then_ret ?_ | refine sc_skip ?_ | refine sc_block ?_ | refine sq_block ?_ | refine sq_block_ret ?_ | refine sc_exit ?_ | refine sq_then_exit ?_ | refine sq_block_exit ?_ | refine sq_block_past ?_ | refine sq_round_ret ?_ | refine sq_round_exit ?_) | (with_reducible refine sc_cond (fun h => ?_) (fun h => ?_)) <;> (try (exfalso; first | contradiction | omega | exact h Iff.rfl)) | fail)
    · refine sw_store ?_
      repeat' (first | with_reducible (first | refine sw_op ?_ | refine sw_op_ ?_) | with_reducible (first | refine sw_nil ?_ | refine sq_then ?_ | refine sc_seq ?_ | refine sc_region ?_ | refine sw_guard_skip ?_ | refine sw_guard_skip_ ?_ | refine sw_guard_run ?_ | refine sc_cond_true ?_ | refine sc_cond_false ?_ | refine sc_ret ?_ | refine sq_then_ret ?_ | refine sc_skip ?_ | refine sc_block ?_ | refine sq_block ?_ | refine sq_block_ret ?_ | refine sc_exit ?_ | refine sq_then_exit ?_ | refine sq_block_exit ?_ | refine sq_block_past ?_ | refine sq_round_ret ?_ | refine sq_round_exit ?_) | (with_reducible refine sc_cond (fun h => ?_) (fun h => ?_)) <;> (try (exfalso; first | contradiction | omega | exact h Iff.rfl)) | fail)
      refine sq_ret1 Try.results92 ?_
      refine ⟨_, ⟨?_, rfl⟩, Ent.drop _ _⟩
      rw [if_neg (by omega), if_pos (by omega)]
    · refine sw_invoke (rcCheck_ok m) ?_
      rintro _ _ ⟨rfl, rfl⟩
      repeat' (first | with_reducible (first | refine sw_op ?_ | refine sw_op_ ?_) | with_reducible (first | refine sw_nil ?_ | refine sq_then ?_ | refine sc_seq ?_ | refine sc_region ?_ | refine sw_guard_skip ?_ | refine sw_guard_skip_ ?_ | refine sw_guard_run ?_ | refine sc_cond_true ?_ | refine sc_cond_false ?_ | refine sc_ret ?_ | refine sq_then_ret ?_ | refine sc_skip ?_ | refine sc_block ?_ | refine sq_block ?_ | refine sq_block_ret ?_ | refine sc_exit ?_ | refine sq_then_exit ?_ | refine sq_block_exit ?_ | refine sq_block_past ?_ | refine sq_round_ret ?_ | refine sq_round_exit ?_) | fail)
      refine sw_store ?_
      repeat' (first | with_reducible (first | refine sw_op ?_ | refine sw_op_ ?_) | with_reducible (first | refine sw_nil ?_ | refine sq_then ?_ | refine sc_seq ?_ | refine sc_region ?_ | refine sw_guard_skip ?_ | refine sw_guard_skip_ ?_ | refine sw_guard_run ?_ | refine sc_cond_true ?_ | refine sc_cond_false ?_ | refine sc_ret ?_ | refine sq_then_ret ?_ | refine sc_skip ?_ | refine sc_block ?_ | refine sq_block ?_ | refine sq_block_ret ?_ | refine sc_exit ?_ | refine sq_then_exit ?_ | refine sq_block_exit ?_ | refine sq_block_past ?_ | refine sq_round_ret ?_ | refine sq_round_exit ?_) | fail)
      refine sq_ret1 Try.results92 ?_
      refine ⟨_, ⟨?_, rfl⟩, Ent.drop _ _⟩
      rw [if_neg (by omega), if_neg (by omega)]
  · refine sq_ret1 Try.results92 ?_
    refine ⟨_, ⟨?_, rfl⟩, Ent.drop _ _⟩
    rw [if_pos (by omega)]
end Go.Gsl
