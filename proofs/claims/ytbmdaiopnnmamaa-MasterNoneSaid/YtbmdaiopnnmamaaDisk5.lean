/- Crash, Write, Barrier, SetFuse, New. -/
import Derived.Test.YtbmdaiopnnmamaaDisk4
namespace Go.Gsl
set_option linter.unusedVariables false
open Go.Proofs

theorem dCrash_bad (p k : Nat) (s : Dk) (r : HProp) (kv : Value) (hb : s.looks 0 ≠ 0) : Spec Try.prog 38 [.pointer (some ⟨p, 0, none⟩), kv] [p, k] [DISK p s, r]
    fun F v Rs' => v = .int .i64 (s.looks 0) ∧ Rs' = (p, DISK p s) :: (k, r) :: F := by
  refine spec_of Try.func38 rfl Try.ntmps38 rfl ?_
  intro w0 F
  repeat' (first | with_reducible (first | refine sw_op ?_ | refine sw_op_ ?_) | ((with_reducible refine sw_call (dLooks_ok p s 0) ?_); rintro _ _ ⟨rfl, rfl⟩) | with_reducible (first | refine sw_nil ?_ | refine sq_then ?_ | refine sc_seq ?_ | refine sc_region ?_ | refine sw_guard_skip ?_ | refine sw_guard_skip_ ?_ | refine sw_guard_run ?_ | refine sc_cond_true ?_ | refine sc_cond_false ?_ | refine sc_ret ?_ | refine sq_then_ret ?_ | refine sc_skip ?_ | refine sc_block ?_ | refine sq_block ?_ | refine sq_block_ret ?_ | refine sc_exit ?_ | refine sq_then_exit ?_ | refine sq_block_exit ?_ | refine sq_block_past ?_ | refine sq_round_ret ?_ | refine sq_round_exit ?_) | (with_reducible refine sc_cond (fun h => ?_) (fun h => ?_)) <;> (try (exfalso; first | contradiction | omega | exact h Iff.rfl)) | (with_reducible refine sw_guard_split (fun h => ?_) (fun h => ?_)) <;> (try (exfalso; first | contradiction | omega | exact h Iff.rfl)) | (with_reducible refine sw_pick (fun h => ?_) (fun h => ?_)) <;> (try (exfalso; first | contradiction | omega | exact h Iff.rfl)) | fail)
  refine sq_ret1 Try.results38 ?_
  exact ⟨_, ⟨rfl, rfl⟩, Ent.refl _⟩

theorem dCrash_ok (p k : Nat) (s : Dk) (r : HProp) (kv : Value) (bs : List Bool) (hr : RdBools r kv bs) (hl : bs.length ≤ 9223372036854775807) (hb : s.looks 0 = 0) : Spec Try.prog 38 [.pointer (some ⟨p, 0, none⟩), kv] [p, k] [DISK p s, r]
    fun F v Rs' => ∃ ks, KeysD s.dirty ks ∧ v = .int .i64 0 ∧ Rs' = (p, DISK p (s.gone ks bs)) :: (k, r) :: F := by
  refine spec_of Try.func38 rfl Try.ntmps38 rfl ?_
  intro w0 F
  repeat' (first | with_reducible (first | refine sw_op ?_ | refine sw_op_ ?_) | ((with_reducible refine sw_call (dLooks_ok p s 0) ?_); rintro _ _ ⟨rfl, rfl⟩) | ((with_reducible refine sw_call (dGoes_ok p k s r kv bs hr hl) ?_); rintro _ _ ⟨ks, hk, rfl, rfl⟩) | with_reducible (first | refine sw_nil ?_ | refine sq_then ?_ | refine sc_seq ?_ | refine sc_region ?_ | refine sw_guard_skip ?_ | refine sw_guard_skip_ ?_ | refine sw_guard_run ?_ | refine sc_cond_true ?_ | refine sc_cond_false ?_ | refine sc_ret ?_ | refine sq_then_ret ?_ | refine sc_skip ?_ | refine sc_block ?_ | refine sq_block ?_ | refine sq_block_ret ?_ | refine sc_exit ?_ | refine sq_then_exit ?_ | refine sq_block_exit ?_ | refine sq_block_past ?_ | refine sq_round_ret ?_ | refine sq_round_exit ?_) | (with_reducible refine sc_cond (fun h => ?_) (fun h => ?_)) <;> (try (exfalso; first | contradiction | omega | exact h Iff.rfl)) | (with_reducible refine sw_guard_split (fun h => ?_) (fun h => ?_)) <;> (try (exfalso; first | contradiction | omega | exact h Iff.rfl)) | (with_reducible refine sw_pick (fun h => ?_) (fun h => ?_)) <;> (try (exfalso; first | contradiction | omega | exact h Iff.rfl)) | fail)
  refine sq_ret1 Try.results38 ?_
  exact ⟨_, ⟨ks, hk, rfl, rfl⟩, Ent.refl _⟩

/-- a fuse set -/
def Dk.fused (s : Dk) (n : Int) (bs : List Bool) : Dk := { s with fuse := n, keep := bs }
theorem Dk.fused_wf {s : Dk} (h : s.Wf) {n : Int} {bs : List Bool} (h0 : 0 ≤ n) (h1 : n ≤ 9223372036854775807) (h2 : bs.length ≤ 140737488355328) : (s.fused n bs).Wf :=
  ⟨h.n1, h.n2, h.sec, h.dsec, h.dat, h0, h1, by show bs.length ≤ _; omega⟩

theorem dSetFuse_neg (p k : Nat) (s : Dk) (r : HProp) (kv : Value) (n : Int) (hn : n < 0) : Spec Try.prog 37 [.pointer (some ⟨p, 0, none⟩), .int .i64 n, kv] [p, k] [DISK p s, r]
    fun F v Rs' => v = .int .i64 1 ∧ Rs' = (p, DISK p s) :: (k, r) :: F := by
  refine spec_of Try.func37 rfl Try.ntmps37 rfl ?_
  intro w0 F
  repeat' (first | with_reducible (first | refine sw_op ?_ | refine sw_op_ ?_) | ((with_reducible refine sw_call (dNone_ok p s) ?_); rintro _ _ ⟨rfl, rfl⟩) | with_reducible (first | refine sw_nil ?_ | refine sq_then ?_ | refine sc_seq ?_ | refine sc_region ?_ | refine sw_guard_skip ?_ | refine sw_guard_skip_ ?_ | refine sw_guard_run ?_ | refine sc_cond_true ?_ | refine sc_cond_false ?_ | refine sc_ret ?_ | refine sq_then_ret ?_ | refine sc_skip ?_ | refine sc_block ?_ | refine sq_block ?_ | refine sq_block_ret ?_ | refine sc_exit ?_ | refine sq_then_exit ?_ | refine sq_block_exit ?_ | refine sq_block_past ?_ | refine sq_round_ret ?_ | refine sq_round_exit ?_) | (with_reducible refine sc_cond (fun h => ?_) (fun h => ?_)) <;> (try (exfalso; first | contradiction | omega | exact h Iff.rfl)) | (with_reducible refine sw_guard_split (fun h => ?_) (fun h => ?_)) <;> (try (exfalso; first | contradiction | omega | exact h Iff.rfl)) | (with_reducible refine sw_pick (fun h => ?_) (fun h => ?_)) <;> (try (exfalso; first | contradiction | omega | exact h Iff.rfl)) | fail)
  refine sq_ret1 Try.results37 ?_
  exact ⟨_, ⟨rfl, rfl⟩, Ent.refl _⟩

theorem dSetFuse_ok (p k : Nat) (s : Dk) (r : HProp) (kv : Value) (bs : List Bool) (n : Int) (hn : 0 ≤ n) (hn2 : n ≤ 9223372036854775807) (hr : RdBools r kv bs) (hl : bs.length ≤ 140737488355328) : Spec Try.prog 37 [.pointer (some ⟨p, 0, none⟩), .int .i64 n, kv] [p, k] [DISK p s, r]
    fun F v Rs' => v = .int .i64 0 ∧ Rs' = (p, DISK p (s.fused n bs)) :: (k, r) :: F := by
  obtain ⟨a, c, rfl, ha, hr⟩ := hr
  refine spec_of Try.func37 rfl Try.ntmps37 rfl ?_
  intro w0 F
  repeat' (first | with_reducible (first | refine sw_op ?_ | refine sw_op_ ?_) | ((with_reducible refine sw_call (dNone_ok p s) ?_); rintro _ _ ⟨rfl, rfl⟩) | ((with_reducible refine sw_call (clBool_ok k r a bs.length c (bs.map Value.bool) hr (one_bools _) (by simp) hl) ?_); rintro _ _ h) | with_reducible (first | refine sw_nil ?_ | refine sq_then ?_ | refine sc_seq ?_ | refine sc_region ?_ | refine sw_guard_skip ?_ | refine sw_guard_skip_ ?_ | refine sw_guard_run ?_ | refine sc_cond_true ?_ | refine sc_cond_false ?_ | refine sc_ret ?_ | refine sq_then_ret ?_ | refine sc_skip ?_ | refine sc_block ?_ | refine sq_block ?_ | refine sq_block_ret ?_ | refine sc_exit ?_ | refine sq_then_exit ?_ | refine sq_block_exit ?_ | refine sq_block_past ?_ | refine sq_round_ret ?_ | refine sq_round_exit ?_) | (with_reducible refine sc_cond (fun h => ?_) (fun h => ?_)) <;> (try (exfalso; first | contradiction | omega | exact h Iff.rfl)) | (with_reducible refine sw_guard_split (fun h => ?_) (fun h => ?_)) <;> (try (exfalso; first | contradiction | omega | exact h Iff.rfl)) | (with_reducible refine sw_pick (fun h => ?_) (fun h => ?_)) <;> (try (exfalso; first | contradiction | omega | exact h Iff.rfl)) | fail)
  rcases h with ⟨rfl, rfl, rfl⟩ | ⟨hne, b, t, rfl, rfl⟩
  · have hb0 : bs = [] := by
      cases bs with
      | nil => rfl
      | cons u us => obtain ⟨b, o, h⟩ := ha (by simp); cases h
    refine DISK.sw (p := p) (s := s) fun x hx => ?_
    unfold DISKl
    repeat' (first | with_reducible (first | refine sw_op ?_ | refine sw_op_ ?_) | with_reducible refine sw_store ?_ | with_reducible (first | refine sw_nil ?_ | refine sq_then ?_ | refine sc_seq ?_ | refine sc_region ?_ | refine sw_guard_skip ?_ | refine sw_guard_skip_ ?_ | refine sw_guard_run ?_ | refine sc_cond_true ?_ | refine sc_cond_false ?_ | refine sc_ret ?_ | refine sq_then_ret ?_ | refine sc_skip ?_ | refine sc_block ?_ | refine sq_block ?_ | refine sq_block_ret ?_ | refine sc_exit ?_ | refine sq_then_exit ?_ | refine sq_block_exit ?_ | refine sq_block_past ?_ | refine sq_round_ret ?_ | refine sq_round_exit ?_) | fail)
    refine sq_ret1 Try.results37 ?_
    refine ⟨_, ⟨rfl, rfl⟩, Ent.trans (B := DISKl p (s.fused n bs) { x with kv := .slice none 0 0 } ((k, r) :: F)) ?_ (DISK.close ⟨Dk.fused_wf hx.wf hn hn2 hl, hx.len, hx.dom, hx.one⟩)⟩
    unfold DISKl
    refine Ent.take_eq rfl (Ent.take_eq rfl (Ent.take_eq rfl ?_))
    refine Ent.take (fun h hp => ⟨hp.1, hp.2.1, .inl ⟨rfl, hb0⟩⟩) ?_
    repeat' (first | with_reducible exact Ent.refl _ | with_reducible refine Ent.take_eq ?_ ?_ | rfl | with_reducible refine Ent.trans (Ent.drop _ _) ?_)
  · refine sw_freeze (b := b) ?_
    refine DISK.sw (p := p) (s := s) fun x hx => ?_
    unfold DISKl
    repeat' (first | with_reducible (first | refine sw_op ?_ | refine sw_op_ ?_) | with_reducible refine sw_store ?_ | with_reducible (first | refine sw_nil ?_ | refine sq_then ?_ | refine sc_seq ?_ | refine sc_region ?_ | refine sw_guard_skip ?_ | refine sw_guard_skip_ ?_ | refine sw_guard_run ?_ | refine sc_cond_true ?_ | refine sc_cond_false ?_ | refine sc_ret ?_ | refine sq_then_ret ?_ | refine sc_skip ?_ | refine sc_block ?_ | refine sq_block ?_ | refine sq_block_ret ?_ | refine sc_exit ?_ | refine sq_then_exit ?_ | refine sq_block_exit ?_ | refine sq_block_past ?_ | refine sq_round_ret ?_ | refine sq_round_exit ?_) | fail)
    refine sq_ret1 Try.results37 ?_
    refine ⟨_, ⟨rfl, rfl⟩, Ent.trans (B := DISKl p (s.fused n bs) { x with kv := .slice (some ⟨b, 0, none⟩) bs.length (bs.length + t.length) } ((k, r) :: F)) ?_ (DISK.close ⟨Dk.fused_wf hx.wf hn hn2 hl, hx.len, hx.dom, hx.one⟩)⟩
    unfold DISKl
    refine Ent.take_eq rfl (Ent.take_eq rfl (Ent.take_eq rfl ?_))
    refine Ent.trans (B := (x.q, DPers x.vs x.f x.kv s) :: (b, imm b (.cells (bs.map Value.bool ++ t).toArray 4 (0, 0))) :: (k, r) :: F) ?_ (Ent.join fun a1 b1 hd hp hi => ⟨hp.1.left, hp.2.1.left, .inr ⟨b, t, rfl, imm_right hd hi⟩⟩)
    repeat' (first | with_reducible exact Ent.refl _ | with_reducible refine Ent.take_eq ?_ ?_ | rfl | with_reducible refine Ent.trans (Ent.drop _ _) ?_)
end Go.Gsl
