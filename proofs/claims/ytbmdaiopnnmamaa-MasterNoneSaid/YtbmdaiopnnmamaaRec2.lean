/- Masters: the bytes of one. -/
import Derived.Test.YtbmdaiopnnmamaaRec1
namespace Go.Gsl
set_option linter.unusedVariables false
open Go.Proofs

/-- a row being written, or none yet -/
def bufV (n : Nat) : Option (Nat × List Value) → Value
  | none => .slice none 0 0
  | some (b, t) => .slice (some ⟨b, 0, none⟩) n (n + t.length)
def bufR (t8 : TypeId) (bs : List Int) (F : List Res) : Option (Nat × List Value) → List Res
  | none => F
  | some (b, t) => (b, pts b (.cells (bs.map (Value.int .u8) ++ t).toArray t8 (0, 0))) :: F

set_option maxHeartbeats 1000000 in
theorem rcPut_ok (k : Nat) (r : HProp) (m : Ms) (hm : m.In) : Spec Try.prog 154 [.agg m.cs.toArray, .slice none 0 0] [k] [r]
    fun F w Rs' => ∃ b t, w = .slice (some ⟨b, 0, none⟩) m.b.length (m.b.length + t.length) ∧ Rs' = (b, pts b (.cells (m.b.map (Value.int .u8) ++ t).toArray 5 (0, 0))) :: (k, r) :: F := by
  refine spec_of Try.func154 rfl Try.ntmps154 rfl ?_
  intro w0 F
  repeat' (first | with_reducible (first | refine sw_op ?_ | refine sw_op_ ?_) | with_reducible (first | refine sw_nil ?_ | refine sq_then ?_ | refine sc_seq ?_ | refine sc_region ?_ | refine sw_guard_skip ?_ | refine sw_guard_skip_ ?_ | refine sw_guard_run ?_ | refine sc_cond_true ?_ | refine sc_cond_false ?_ | refine sc_ret ?_ | refine sq_then_ret ?_ | refine sc_skip ?_ | refine sc_block ?_ | refine sq_block ?_ | refine sq_block_ret ?_ | refine sc_exit ?_ | refine sq_then_exit ?_ | refine sq_block_exit ?_ | refine sq_block_past ?_ | refine sq_round_ret ?_ | refine sq_round_exit ?_) | fail)
  refine sw_box fun b1 => ?_
  repeat' (first | with_reducible (first | refine sw_op ?_ | refine sw_op_ ?_) | with_reducible (first | refine sw_nil ?_ | refine sq_then ?_ | refine sc_seq ?_ | refine sc_region ?_ | refine sw_guard_skip ?_ | refine sw_guard_skip_ ?_ | refine sw_guard_run ?_ | refine sc_cond_true ?_ | refine sc_cond_false ?_ | refine sc_ret ?_ | refine sq_then_ret ?_ | refine sc_skip ?_ | refine sc_block ?_ | refine sq_block ?_ | refine sq_block_ret ?_ | refine sc_exit ?_ | refine sq_then_exit ?_ | refine sq_block_exit ?_ | refine sq_block_past ?_ | refine sq_round_ret ?_ | refine sq_round_exit ?_) | fail)
  refine sw_buildA m.cs (by kernel_rfl) ?_
  repeat' (first | with_reducible (first | refine sw_op ?_ | refine sw_op_ ?_) | with_reducible (first | refine sw_nil ?_ | refine sq_then ?_ | refine sc_seq ?_ | refine sc_region ?_ | refine sw_guard_skip ?_ | refine sw_guard_skip_ ?_ | refine sw_guard_run ?_ | refine sc_cond_true ?_ | refine sc_cond_false ?_ | refine sc_ret ?_ | refine sq_then_ret ?_ | refine sc_skip ?_ | refine sc_block ?_ | refine sq_block ?_ | refine sq_block_ret ?_ | refine sc_exit ?_ | refine sq_then_exit ?_ | refine sq_block_exit ?_ | refine sq_block_past ?_ | refine sq_round_ret ?_ | refine sq_round_exit ?_) | fail)
  refine sc_loop (α := { x : Nat × Option (Nat × List Value) // x.1 ≤ 8 ∧ (x.2 = none → x.1 = 0) }) (fun x => [(1, bufV (intsB (m.l.take x.1.1)).length x.1.2), (35, .agg m.cs.toArray), (36, .int .i64 (x.1.1 : Int))])
    (fun x => bufR 5 (intsB (m.l.take x.1.1)) ((k, r) :: F) x.1.2) (fun x => 8 - x.1.1) ⟨(0, none), Nat.zero_le _, fun _ => rfl⟩ ?_ ?_ ?_
  · repeat' (first | exact says_nil | refine says_cons rfl ?_ | refine says_cons (by simp) ?_)
  · show Ent _ ((k, r) :: F)
    repeat' (first | with_reducible exact Ent.refl _ | with_reducible refine Ent.take_eq ?_ ?_ | rfl | with_reducible refine Ent.trans (Ent.drop _ _) ?_)
  rintro ⟨⟨i, o⟩, hi, hn⟩ e
  (try simp only at hi hn)
  simp only [List.cons_append, List.nil_append]
  have hml : m.l.length = 8 := rfl
  have hlen := intsB_len (m.l.take i)
  rw [List.length_take, hml] at hlen
  repeat' (first | with_reducible (first | refine sw_in (by omega) ?_ | refine sw_op ?_ | refine sw_op_ ?_) | with_reducible (first | refine sw_nil ?_ | refine sq_then ?_ | refine sc_seq ?_ | refine sc_region ?_ | refine sw_guard_skip ?_ | refine sw_guard_skip_ ?_ | refine sw_guard_run ?_ | refine sc_cond_true ?_ | refine sc_cond_false ?_ | refine sc_ret ?_ | refine sq_then_ret ?_ | refine sc_skip ?_ | refine sc_block ?_ | refine sq_block ?_ | refine sq_block_ret ?_ | refine sc_exit ?_ | refine sq_then_exit ?_ | refine sq_block_exit ?_ | refine sq_block_past ?_ | refine sq_round_ret ?_ | refine sq_round_exit ?_) | (with_reducible refine sc_cond (fun h => ?_) (fun h => ?_)) <;> (try (exfalso; first | contradiction | omega | exact h Iff.rfl)) | fail)
  · have hi2 : i < m.l.length := by omega
    have hri : m.l[i]? = some m.l[i] := List.getElem?_eq_getElem hi2
    have hx := hm m.l[i] (List.getElem_mem hi2)
    have hsn : intsB (m.l.take (i + 1)) = intsB (m.l.take i) ++ intB m.l[i] := by rw [List.take_add_one, hri, Option.toList_some, intsB_snoc]
    refine sw_indexV i (.int .i64 m.l[i]) ⟨rfl, by omega⟩ (by show (m.l.map (Value.int .i64))[i]? = _; rw [List.getElem?_map, hri]; rfl) ?_
    generalize m.l[i] = x at *
    rcases o with _ | ⟨b, t⟩
    · have h0 := hn rfl
      subst h0
      simp only [bufV, bufR]
      repeat' (first | with_reducible (first | refine sw_op ?_ | refine sw_op_ ?_) | with_reducible (first | refine sw_nil ?_ | refine sq_then ?_ | refine sc_seq ?_ | refine sc_region ?_ | refine sw_guard_skip ?_ | refine sw_guard_skip_ ?_ | refine sw_guard_run ?_ | refine sc_cond_true ?_ | refine sc_cond_false ?_ | refine sc_ret ?_ | refine sq_then_ret ?_ | refine sc_skip ?_ | refine sc_block ?_ | refine sq_block ?_ | refine sq_block_ret ?_ | refine sc_exit ?_ | refine sq_then_exit ?_ | refine sq_block_exit ?_ | refine sq_block_past ?_ | refine sq_round_ret ?_ | refine sq_round_exit ?_) | fail)
      refine sw_call (cPutInt_ok k r (.slice none 0 0) [] x .nil (by simp) hx) ?_
      rintro _ _ ⟨b2, t2, rfl, rfl⟩
      repeat' (first | with_reducible (first | refine sw_in (by omega) ?_ | refine sw_op ?_ | refine sw_op_ ?_) | with_reducible (first | refine sw_nil ?_ | refine sq_then ?_ | refine sc_seq ?_ | refine sc_region ?_ | refine sw_guard_skip ?_ | refine sw_guard_skip_ ?_ | refine sw_guard_run ?_ | refine sc_cond_true ?_ | refine sc_cond_false ?_ | refine sc_ret ?_ | refine sq_then_ret ?_ | refine sc_skip ?_ | refine sc_block ?_ | refine sq_block ?_ | refine sq_block_ret ?_ | refine sc_exit ?_ | refine sq_then_exit ?_ | refine sq_block_exit ?_ | refine sq_block_past ?_ | refine sq_round_ret ?_ | refine sq_round_exit ?_) | fail)
      refine sq_round ⟨(1, some (b2, t2)), by omega, fun h => by cases h⟩ ?_ ?_ ?_
      · show 8 - 1 < 8 - 0
        omega
      · dsimp only [bufV]
        rw [hsn]
        repeat' (first | exact says_nil | refine says_cons rfl ?_ | refine says_cons (by simp) ?_)
      · show Ent _ ((b2, pts b2 (.cells ((intsB (m.l.take (0 + 1))).map (Value.int .u8) ++ t2).toArray 5 (0, 0))) :: (k, r) :: F)
        rw [hsn]
        exact Ent.refl _
    · simp only [bufV, bufR]
      repeat' (first | with_reducible (first | refine sw_op ?_ | refine sw_op_ ?_) | with_reducible (first | refine sw_nil ?_ | refine sq_then ?_ | refine sc_seq ?_ | refine sc_region ?_ | refine sw_guard_skip ?_ | refine sw_guard_skip_ ?_ | refine sw_guard_run ?_ | refine sc_cond_true ?_ | refine sc_cond_false ?_ | refine sc_ret ?_ | refine sq_then_ret ?_ | refine sc_skip ?_ | refine sc_block ?_ | refine sq_block ?_ | refine sq_block_ret ?_ | refine sc_exit ?_ | refine sq_then_exit ?_ | refine sq_block_exit ?_ | refine sq_block_past ?_ | refine sq_round_ret ?_ | refine sq_round_exit ?_) | fail)
      refine sw_call (cPutInt_ok b (pts b (.cells ((intsB (m.l.take i)).map (Value.int .u8) ++ t).toArray 5 (0, 0))) _ (intsB (m.l.take i)) x RdB.own (by omega) hx) ?_
      rintro _ _ ⟨b2, t2, rfl, rfl⟩
      repeat' (first | with_reducible (first | refine sw_in (by omega) ?_ | refine sw_op ?_ | refine sw_op_ ?_) | with_reducible (first | refine sw_nil ?_ | refine sq_then ?_ | refine sc_seq ?_ | refine sc_region ?_ | refine sw_guard_skip ?_ | refine sw_guard_skip_ ?_ | refine sw_guard_run ?_ | refine sc_cond_true ?_ | refine sc_cond_false ?_ | refine sc_ret ?_ | refine sq_then_ret ?_ | refine sc_skip ?_ | refine sc_block ?_ | refine sq_block ?_ | refine sq_block_ret ?_ | refine sc_exit ?_ | refine sq_then_exit ?_ | refine sq_block_exit ?_ | refine sq_block_past ?_ | refine sq_round_ret ?_ | refine sq_round_exit ?_) | fail)
      refine sq_round ⟨(i + 1, some (b2, t2)), by omega, fun h => by cases h⟩ ?_ ?_ ?_
      · show 8 - (i + 1) < 8 - i
        omega
      · dsimp only [bufV]
        rw [hsn]
        repeat' (first | exact says_nil | refine says_cons rfl ?_ | refine says_cons (by simp) ?_)
      · show Ent _ ((b2, pts b2 (.cells ((intsB (m.l.take (i + 1))).map (Value.int .u8) ++ t2).toArray 5 (0, 0))) :: (k, r) :: F)
        rw [hsn]
        repeat' (first | with_reducible exact Ent.refl _ | with_reducible refine Ent.take_eq ?_ ?_ | rfl | with_reducible refine Ent.trans (Ent.drop _ _) ?_)
  have hi8 : i = 8 := by omega
  subst hi8
  rcases o with _ | ⟨b, t⟩
  · exact absurd (hn rfl) (by omega)
  simp only [bufV, bufR]
  have hfin : intsB (m.l.take 8) = m.b := rfl
  rw [hfin]
  repeat' (first | with_reducible (first | refine sw_op ?_ | refine sw_op_ ?_) | with_reducible (first | refine sw_nil ?_ | refine sq_then ?_ | refine sc_seq ?_ | refine sc_region ?_ | refine sw_guard_skip ?_ | refine sw_guard_skip_ ?_ | refine sw_guard_run ?_ | refine sc_cond_true ?_ | refine sc_cond_false ?_ | refine sc_ret ?_ | refine sq_then_ret ?_ | refine sc_skip ?_ | refine sc_block ?_ | refine sq_block ?_ | refine sq_block_ret ?_ | refine sc_exit ?_ | refine sq_then_exit ?_ | refine sq_block_exit ?_ | refine sq_block_past ?_ | refine sq_round_ret ?_ | refine sq_round_exit ?_) | fail)
  refine sq_ret1 Try.results154 ?_
  exact ⟨_, ⟨b, t, rfl, rfl⟩, Ent.refl _⟩

theorem rcBytes_ok (k : Nat) (r : HProp) (m : Ms) (hm : m.In) : Spec Try.prog 88 [.iface 135 (.agg m.cs.toArray)] [k] [r]
    fun F w Rs' => (m.chk ≠ 0 ∧ w = .tuple #[.slice none 0 0, .int .i64 m.chk] ∧ Rs' = (k, r) :: F) ∨ (m.chk = 0 ∧ ∃ b t, w = .tuple #[.slice (some ⟨b, 0, none⟩) m.b.length (m.b.length + t.length), .int .i64 0] ∧ Rs' = (b, pts b (.cells (m.b.map (Value.int .u8) ++ t).toArray 5 (0, 0))) :: (k, r) :: F) := by
  refine spec_of Try.func88 rfl Try.ntmps88 rfl ?_
  intro w0 F
  repeat' (first | with_reducible (first | refine sw_op ?_ | refine sw_op_ ?_) | ((with_reducible refine sw_invoke (rcCheck_ok m) ?_); rintro _ _ ⟨rfl, rfl⟩) | with_reducible (first | refine sw_nil ?_ | refine sq_then ?_ | refine sc_seq ?_ | refine sc_region ?_ | refine sw_guard_skip ?_ | refine sw_guard_skip_ ?_ | refine sw_guard_run ?_ | refine sc_cond_true ?_ | refine sc_cond_false ?_ | refine sc_ret ?_ | refine sq_then_ret ?_ | refine sc_skip ?_ | refine sc_block ?_ | refine sq_block ?_ | refine sq_block_ret ?_ | refine sc_exit ?_ | refine sq_then_exit ?_ | refine sq_block_exit ?_ | refine sq_block_past ?_ | refine sq_round_ret ?_ | refine sq_round_exit ?_) | (with_reducible refine sc_cond (fun h => ?_) (fun h => ?_)) <;> (try (exfalso; first | contradiction | omega | exact h Iff.rfl)) | fail)
  · refine sq_ret2 Try.results88 ?_
    exact ⟨_, .inl ⟨h, rfl, rfl⟩, Ent.refl _⟩
  · refine sw_invoke (rcPut_ok k r m hm) ?_
    rintro _ _ ⟨b, t, rfl, rfl⟩
    repeat' (first | with_reducible (first | refine sw_op ?_ | refine sw_op_ ?_) | with_reducible (first | refine sw_nil ?_ | refine sq_then ?_ | refine sc_seq ?_ | refine sc_region ?_ | refine sw_guard_skip ?_ | refine sw_guard_skip_ ?_ | refine sw_guard_run ?_ | refine sc_cond_true ?_ | refine sc_cond_false ?_ | refine sc_ret ?_ | refine sq_then_ret ?_ | refine sc_skip ?_ | refine sc_block ?_ | refine sq_block ?_ | refine sq_block_ret ?_ | refine sc_exit ?_ | refine sq_then_exit ?_ | refine sq_block_exit ?_ | refine sq_block_past ?_ | refine sq_round_ret ?_ | refine sq_round_exit ?_) | fail)
    refine sq_ret2 Try.results88 ?_
    exact ⟨_, .inr ⟨by omega, b, t, rfl, rfl⟩, Ent.refl _⟩

theorem rcMaster_ok (k : Nat) (r : HProp) (m : Ms) (hm : m.In) : Spec Try.prog 61 [.agg m.cs.toArray] [k] [r]
    fun F w Rs' => (m.chk ≠ 0 ∧ w = .tuple #[.slice none 0 0, .int .i64 m.chk] ∧ Rs' = (k, r) :: F) ∨ (m.chk = 0 ∧ ∃ b t, w = .tuple #[.slice (some ⟨b, 0, none⟩) m.b.length (m.b.length + t.length), .int .i64 0] ∧ Rs' = (b, pts b (.cells (m.b.map (Value.int .u8) ++ t).toArray 5 (0, 0))) :: (k, r) :: F) := by
  refine spec_of Try.func61 rfl Try.ntmps61 rfl ?_
  intro w0 F
  repeat' (first | with_reducible (first | refine sw_op ?_ | refine sw_op_ ?_) | with_reducible (first | refine sw_nil ?_ | refine sq_then ?_ | refine sc_seq ?_ | refine sc_region ?_ | refine sw_guard_skip ?_ | refine sw_guard_skip_ ?_ | refine sw_guard_run ?_ | refine sc_cond_true ?_ | refine sc_cond_false ?_ | refine sc_ret ?_ | refine sq_then_ret ?_ | refine sc_skip ?_ | refine sc_block ?_ | refine sq_block ?_ | refine sq_block_ret ?_ | refine sc_exit ?_ | refine sq_then_exit ?_ | refine sq_block_exit ?_ | refine sq_block_past ?_ | refine sq_round_ret ?_ | refine sq_round_exit ?_) | fail)
  refine sw_box fun b1 => ?_
  repeat' (first | with_reducible (first | refine sw_op ?_ | refine sw_op_ ?_) | with_reducible (first | refine sw_nil ?_ | refine sq_then ?_ | refine sc_seq ?_ | refine sc_region ?_ | refine sw_guard_skip ?_ | refine sw_guard_skip_ ?_ | refine sw_guard_run ?_ | refine sc_cond_true ?_ | refine sc_cond_false ?_ | refine sc_ret ?_ | refine sq_then_ret ?_ | refine sc_skip ?_ | refine sc_block ?_ | refine sq_block ?_ | refine sq_block_ret ?_ | refine sc_exit ?_ | refine sq_then_exit ?_ | refine sq_block_exit ?_ | refine sq_block_past ?_ | refine sq_round_ret ?_ | refine sq_round_exit ?_) | fail)
  refine sw_build m.cs (by kernel_rfl) ?_
  repeat' (first | with_reducible (first | refine sw_op ?_ | refine sw_op_ ?_) | with_reducible (first | refine sw_nil ?_ | refine sq_then ?_ | refine sc_seq ?_ | refine sc_region ?_ | refine sw_guard_skip ?_ | refine sw_guard_skip_ ?_ | refine sw_guard_run ?_ | refine sc_cond_true ?_ | refine sc_cond_false ?_ | refine sc_ret ?_ | refine sq_then_ret ?_ | refine sc_skip ?_ | refine sc_block ?_ | refine sq_block ?_ | refine sq_block_ret ?_ | refine sc_exit ?_ | refine sq_then_exit ?_ | refine sq_block_exit ?_ | refine sq_block_past ?_ | refine sq_round_ret ?_ | refine sq_round_exit ?_) | fail)
  refine sw_call (rcBytes_ok k r m hm) ?_
  rintro _ _ (⟨h, rfl, rfl⟩ | ⟨h, b, t, rfl, rfl⟩)
  · repeat' (first | with_reducible (first | refine sw_op ?_ | refine sw_op_ ?_) | with_reducible (first | refine sw_nil ?_ | refine sq_then ?_ | refine sc_seq ?_ | refine sc_region ?_ | refine sw_guard_skip ?_ | refine sw_guard_skip_ ?_ | refine sw_guard_run ?_ | refine sc_cond_true ?_ | refine sc_cond_false ?_ | refine sc_ret ?_ | refine sq_then_ret ?_ | refine sc_skip ?_ | refine sc_block ?_ | refine sq_block ?_ | refine sq_block_ret ?_ | refine sc_exit ?_ | refine sq_then_exit ?_ | refine sq_block_exit ?_ | refine sq_block_past ?_ | refine sq_round_ret ?_ | refine sq_round_exit ?_) | fail)
    refine sq_ret2 Try.results61 ?_
    refine ⟨_, .inl ⟨h, rfl, rfl⟩, ?_⟩
    repeat' (first | with_reducible exact Ent.refl _ | with_reducible refine Ent.take_eq ?_ ?_ | rfl | with_reducible refine Ent.trans (Ent.drop _ _) ?_)
  · repeat' (first | with_reducible (first | refine sw_op ?_ | refine sw_op_ ?_) | with_reducible (first | refine sw_nil ?_ | refine sq_then ?_ | refine sc_seq ?_ | refine sc_region ?_ | refine sw_guard_skip ?_ | refine sw_guard_skip_ ?_ | refine sw_guard_run ?_ | refine sc_cond_true ?_ | refine sc_cond_false ?_ | refine sc_ret ?_ | refine sq_then_ret ?_ | refine sc_skip ?_ | refine sc_block ?_ | refine sq_block ?_ | refine sq_block_ret ?_ | refine sc_exit ?_ | refine sq_then_exit ?_ | refine sq_block_exit ?_ | refine sq_block_past ?_ | refine sq_round_ret ?_ | refine sq_round_exit ?_) | fail)
    refine sq_ret2 Try.results61 ?_
    refine ⟨_, .inr ⟨h, b, t, rfl, rfl⟩, ?_⟩
    repeat' (first | with_reducible exact Ent.refl _ | with_reducible refine Ent.take_eq ?_ ?_ | rfl | with_reducible refine Ent.trans (Ent.drop _ _) ?_)
end Go.Gsl
