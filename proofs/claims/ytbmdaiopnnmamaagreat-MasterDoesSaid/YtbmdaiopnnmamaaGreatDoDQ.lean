/- MasterDoes. -/
import Derived.Test.YtbmdaiopnnmamaaGreatDoCQ
import Derived.Test.YtbmdaiopnnmamaaGreatGM
import Derived.Test.YtbmdaiopnnmamaaGreatGF
namespace Go.Gsl
set_option linter.unusedVariables false
open Go.Proofs Go.RowKit Go.ChangeShapes Go.WideShapes

def Ops13 (W : World) (a : Option Addr) (os : List Op13) : Prop :=
  ∀ k (h : k < os.length), (os[k].Wf W ∧ os[k].keep.length ≤ 140737488355328) ∧ ∃ b off, a = some ⟨b, off, none⟩ ∧ ∀ j v, (op13v os[k])[j]? = some v → W.cell? ⟨b, off + k * 13 + j, none⟩ = some v

/-- the operation that reads -/
def opRead : Op13 := ⟨1, Ms.zero, 0, .slice none 0 0, [], 0, .slice none 0 0, []⟩
theorem opRead_wf (W : World) : opRead.Wf W := by
  refine ⟨?_, by show (-9223372036854775808 : Int) ≤ 0 ∧ (0 : Int) ≤ 9223372036854775807; omega, ?_, ?_, fun x hx => by simp [opRead] at hx⟩
  · intro x hx
    simp only [opRead, Ms.l, Ms.zero, List.mem_cons, List.not_mem_nil, or_false] at hx
    unfold I64; omega
  · exact ⟨none, 0, rfl, Nat.zero_le _, fun h => by simp [opRead] at h, fun j u h => by simp [opRead] at h⟩
  · exact ⟨none, 0, rfl, Nat.zero_le _, fun h => by simp [opRead] at h, fun j u h => by simp [opRead] at h⟩

set_option maxHeartbeats 2000000 in
theorem l20Does_ok (W : World) (n a : Int) (hn : I64 n) (a1 : Option Addr) (os : List Op13) (c1 : Nat) (h1 : Ops13 W a1 os) (hl1 : os.length ≤ maxLen) :
    Spec Tryz.prog 3 [.int .i64 n, .int .i64 a, .slice a1 os.length c1] [0] [ro W] fun F v Rs' => v = .bool true ∧ ∃ G, Rs' = (0, ro W) :: G := by
  have hpl := pl_in a
  have hml : maxLen ≤ 9223372036854775807 := by decide
  refine spec_of Tryz.func3 rfl Tryz.ntmps3 rfl ?_
  intro w0 F
  repeat' (first | with_reducible (first | refine sw_op ?_ | refine sw_op_ ?_) | with_reducible (first | refine sw_nil ?_ | refine sq_then ?_ | refine sc_seq ?_ | refine sc_region ?_ | refine sw_guard_skip ?_ | refine sw_guard_skip_ ?_ | refine sw_guard_run ?_ | refine sc_cond_true ?_ | refine sc_cond_false ?_ | refine sc_ret ?_ | refine sq_then_ret ?_ | refine sc_skip ?_ | refine sc_block ?_ | refine sq_block ?_ | refine sq_block_ret ?_ | refine sc_exit ?_ | refine sq_then_exit ?_ | refine sq_block_exit ?_ | refine sq_block_past ?_ | refine sq_round_ret ?_ | refine sq_round_exit ?_) | fail)
  by_cases hb : n < 1 ∨ 16384 < n
  · refine sw_call (dNew_bad n hb) ?_
    rintro _ _ ⟨rfl, rfl⟩
    repeat' (first | with_reducible (first | refine sw_op ?_ | refine sw_op_ ?_) | with_reducible (first | refine sw_nil ?_ | refine sq_then ?_ | refine sc_seq ?_ | refine sc_region ?_ | refine sw_guard_skip ?_ | refine sw_guard_skip_ ?_ | refine sw_guard_run ?_ | refine sc_cond_true ?_ | refine sc_cond_false ?_ | refine sc_ret ?_ | refine sq_then_ret ?_ | refine sc_skip ?_ | refine sc_block ?_ | refine sq_block ?_ | refine sq_block_ret ?_ | refine sc_exit ?_ | refine sq_then_exit ?_ | refine sq_block_exit ?_ | refine sq_block_past ?_ | refine sq_round_ret ?_ | refine sq_round_exit ?_) | fail)
    refine sw_call (rNew_bad n hb) ?_
    rintro _ _ ⟨rfl, rfl⟩
    repeat' (first | with_reducible (first | refine sw_op ?_ | refine sw_op_ ?_) | with_reducible refine sw_guard_skip_u ?_ | ((with_reducible refine sw_call l20begun_ok ?_); rintro _ _ ⟨rfl, rfl⟩) | with_reducible (first | refine sw_nil ?_ | refine sq_then ?_ | refine sc_seq ?_ | refine sc_region ?_ | refine sw_guard_skip ?_ | refine sw_guard_skip_ ?_ | refine sw_guard_run ?_ | refine sc_cond_true ?_ | refine sc_cond_false ?_ | refine sc_ret ?_ | refine sq_then_ret ?_ | refine sc_skip ?_ | refine sc_block ?_ | refine sq_block ?_ | refine sq_block_ret ?_ | refine sc_exit ?_ | refine sq_then_exit ?_ | refine sq_block_exit ?_ | refine sq_block_past ?_ | refine sq_round_ret ?_ | refine sq_round_exit ?_) | (with_reducible refine sw_guard_split (fun h => ?_) (fun h => ?_)) <;> (try (exfalso; first | contradiction | omega | exact h Iff.rfl)) | (with_reducible refine sc_cond (fun h => ?_) (fun h => ?_)) <;> (try (exfalso; first | contradiction | omega | exact h Iff.rfl)) | (with_reducible refine sw_pick (fun h => ?_) (fun h => ?_)) <;> (try (exfalso; first | contradiction | omega | exact h Iff.rfl)) | fail)
    refine sq_ret1 Tryz.results3 ?_
    refine ⟨_, ⟨rfl, F, rfl⟩, ?_⟩
    repeat' (first | with_reducible exact Ent.refl _ | with_reducible refine Ent.take_eq ?_ ?_ | rfl | with_reducible refine Ent.trans (Ent.drop _ _) ?_)
  obtain ⟨m, rfl⟩ : ∃ m : Nat, n = m := ⟨n.toNat, by omega⟩
  refine sw_call (dNew_ok m (by omega) (by omega)) ?_
  rintro _ _ ⟨pd, rfl, rfl⟩
  repeat' (first | with_reducible (first | refine sw_op ?_ | refine sw_op_ ?_) | with_reducible (first | refine sw_nil ?_ | refine sq_then ?_ | refine sc_seq ?_ | refine sc_region ?_ | refine sw_guard_skip ?_ | refine sw_guard_skip_ ?_ | refine sw_guard_run ?_ | refine sc_cond_true ?_ | refine sc_cond_false ?_ | refine sc_ret ?_ | refine sq_then_ret ?_ | refine sc_skip ?_ | refine sc_block ?_ | refine sq_block ?_ | refine sq_block_ret ?_ | refine sc_exit ?_ | refine sq_then_exit ?_ | refine sq_block_exit ?_ | refine sq_block_past ?_ | refine sq_round_ret ?_ | refine sq_round_exit ?_) | fail)
  refine sw_call (rNew_ok m (by omega) (by omega)) ?_
  rintro _ _ ⟨pr, rfl, rfl⟩
  repeat' (first | with_reducible (first | refine sw_op ?_ | refine sw_op_ ?_) | with_reducible refine sw_guard_skip_u ?_ | ((with_reducible refine sw_call l20begun_ok ?_); rintro _ _ ⟨rfl, rfl⟩) | ((with_reducible refine sw_call (l20place_ok a) ?_); rintro _ _ ⟨rfl, rfl⟩) | with_reducible (first | refine sw_nil ?_ | refine sq_then ?_ | refine sc_seq ?_ | refine sc_region ?_ | refine sw_guard_skip ?_ | refine sw_guard_skip_ ?_ | refine sw_guard_run ?_ | refine sc_cond_true ?_ | refine sc_cond_false ?_ | refine sc_ret ?_ | refine sq_then_ret ?_ | refine sc_skip ?_ | refine sc_block ?_ | refine sq_block ?_ | refine sq_block_ret ?_ | refine sc_exit ?_ | refine sq_then_exit ?_ | refine sq_block_exit ?_ | refine sq_block_past ?_ | refine sq_round_ret ?_ | refine sq_round_exit ?_) | (with_reducible refine sw_guard_split (fun h => ?_) (fun h => ?_)) <;> (try (exfalso; first | contradiction | omega | exact h Iff.rfl)) | (with_reducible refine sc_cond (fun h => ?_) (fun h => ?_)) <;> (try (exfalso; first | contradiction | omega | exact h Iff.rfl)) | (with_reducible refine sw_pick (fun h => ?_) (fun h => ?_)) <;> (try (exfalso; first | contradiction | omega | exact h Iff.rfl)) | fail)
  refine sc_loop (α := { x : Nat × Dk // x.1 ≤ os.length }) (fun x => [(1, .int .i64 (pl a)), (7, .pointer (some ⟨pd, 0, none⟩)), (9, .pointer (some ⟨pr, 0, none⟩)), (41, .slice a1 os.length c1), (42, .int .i64 os.length), (43, .int .i64 (x.1.1 : Int))])
    (fun x => (pd, DISK pd x.1.2) :: (pr, REF pr x.1.2) :: (0, ro W) :: F) (fun x => os.length - x.1.1) ⟨(0, Dk.new m), Nat.zero_le _⟩ ?_ ?_ ?_
  · repeat' (first | exact says_nil | refine says_cons rfl ?_ | refine says_cons (by simp) ?_)
  · repeat' (first | with_reducible exact Ent.refl _ | with_reducible refine Ent.take_eq ?_ ?_ | rfl | with_reducible refine Ent.trans (Ent.drop _ _) ?_)
  rintro ⟨⟨k, s⟩, hk⟩ e
  (try simp only at hk)
  simp only [List.cons_append, List.nil_append]
  repeat' (first | with_reducible (first | refine sw_in (by omega) ?_ | refine sw_op ?_ | refine sw_op_ ?_) | with_reducible (first | refine sw_nil ?_ | refine sq_then ?_ | refine sc_seq ?_ | refine sc_region ?_ | refine sw_guard_skip ?_ | refine sw_guard_skip_ ?_ | refine sw_guard_run ?_ | refine sc_cond_true ?_ | refine sc_cond_false ?_ | refine sc_ret ?_ | refine sq_then_ret ?_ | refine sc_skip ?_ | refine sc_block ?_ | refine sq_block ?_ | refine sq_block_ret ?_ | refine sc_exit ?_ | refine sq_then_exit ?_ | refine sq_block_exit ?_ | refine sq_block_past ?_ | refine sq_round_ret ?_ | refine sq_round_exit ?_) | (with_reducible refine sc_cond (fun h => ?_) (fun h => ?_)) <;> (try (exfalso; first | contradiction | omega | exact h Iff.rfl)) | fail)
  · have hlt : k < os.length := by omega
    obtain ⟨⟨hwf, hkz⟩, b, off, rfl, hcell⟩ := h1 k hlt
    refine sw_index (by omega) ?_
    refine sw_load_agg (sz := 13) (vs := op13v os[k]) rfl (fun w hw j v hj => ro_cell (W := W) (by simpa using hcell j v hj) w hw) ?_
    haveI := hwf.keep.one
    haveI := hwf.data.one
    refine sw_alloc fun ob => ?_
    refine sw_store_agg ?_
    repeat' (first | with_reducible (first | refine sw_op ?_ | refine sw_op_ ?_) | with_reducible (first | refine sw_nil ?_ | refine sq_then ?_ | refine sc_seq ?_ | refine sc_region ?_ | refine sw_guard_skip ?_ | refine sw_guard_skip_ ?_ | refine sw_guard_run ?_ | refine sc_cond_true ?_ | refine sc_cond_false ?_ | refine sc_ret ?_ | refine sq_then_ret ?_ | refine sc_skip ?_ | refine sc_block ?_ | refine sq_block ?_ | refine sq_block_ret ?_ | refine sc_exit ?_ | refine sq_then_exit ?_ | refine sq_block_exit ?_ | refine sq_block_past ?_ | refine sq_round_ret ?_ | refine sq_round_exit ?_) | fail)
    refine sw_call (l20step_ok W pd pr s (pl a) hpl os[k] hwf hkz) ?_
    rintro _ _ ⟨s', rfl, rfl⟩
    repeat' (first | with_reducible (first | refine sw_in (by omega) ?_ | refine sw_op ?_ | refine sw_op_ ?_) | with_reducible (first | refine sw_nil ?_ | refine sq_then ?_ | refine sc_seq ?_ | refine sc_region ?_ | refine sw_guard_skip ?_ | refine sw_guard_skip_ ?_ | refine sw_guard_run ?_ | refine sc_cond_true ?_ | refine sc_cond_false ?_ | refine sc_ret ?_ | refine sq_then_ret ?_ | refine sc_skip ?_ | refine sc_block ?_ | refine sq_block ?_ | refine sq_block_ret ?_ | refine sc_exit ?_ | refine sq_then_exit ?_ | refine sq_block_exit ?_ | refine sq_block_past ?_ | refine sq_round_ret ?_ | refine sq_round_exit ?_) | (with_reducible refine sc_cond (fun h => ?_) (fun h => ?_)) <;> (try (exfalso; first | contradiction | omega | exact h Iff.rfl)) | fail)
    refine sq_round ⟨(k + 1, s'), by show k + 1 ≤ os.length; omega⟩ ?_ ?_ ?_
    · show os.length - (k + 1) < os.length - k
      omega
    · repeat' (first | exact says_nil | refine says_cons rfl ?_ | refine says_cons (by simp) ?_)
    · repeat' (first | with_reducible exact Ent.refl _ | with_reducible refine Ent.take_eq ?_ ?_ | rfl | with_reducible refine Ent.trans (Ent.drop _ _) ?_)
  · refine sw_build (op13v opRead) (by kernel_rfl) ?_
    refine sw_call (l20step_ok W pd pr s (pl a) hpl opRead (opRead_wf W) (by decide)) ?_
    rintro _ _ ⟨s', rfl, rfl⟩
    repeat' (first | with_reducible (first | refine sw_op ?_ | refine sw_op_ ?_) | with_reducible refine sw_guard_skip_u ?_ | ((with_reducible refine sw_call (dCalls_ok pd s') ?_); rintro _ _ ⟨rfl, rfl⟩) | ((with_reducible refine sw_call (rCalls_ok pr s') ?_); rintro _ _ ⟨rfl, rfl⟩) | with_reducible (first | refine sw_nil ?_ | refine sq_then ?_ | refine sc_seq ?_ | refine sc_region ?_ | refine sw_guard_skip ?_ | refine sw_guard_skip_ ?_ | refine sw_guard_run ?_ | refine sc_cond_true ?_ | refine sc_cond_false ?_ | refine sc_ret ?_ | refine sq_then_ret ?_ | refine sc_skip ?_ | refine sc_block ?_ | refine sq_block ?_ | refine sq_block_ret ?_ | refine sc_exit ?_ | refine sq_then_exit ?_ | refine sq_block_exit ?_ | refine sq_block_past ?_ | refine sq_round_ret ?_ | refine sq_round_exit ?_) | (with_reducible refine sw_guard_split (fun h => ?_) (fun h => ?_)) <;> (try (exfalso; first | contradiction | omega | exact h Iff.rfl)) | (with_reducible refine sc_cond (fun h => ?_) (fun h => ?_)) <;> (try (exfalso; first | contradiction | omega | exact h Iff.rfl)) | (with_reducible refine sw_pick (fun h => ?_) (fun h => ?_)) <;> (try (exfalso; first | contradiction | omega | exact h Iff.rfl)) | fail)
    refine sq_ret1 Tryz.results3 ?_
    refine ⟨_, ⟨by simp, F, rfl⟩, ?_⟩
    repeat' (first | with_reducible exact Ent.refl _ | with_reducible refine Ent.take_eq ?_ ?_ | rfl | with_reducible refine Ent.trans (Ent.drop _ _) ?_)
end Go.Gsl
