/- The document's disk: Same, New. -/
import Derived.Test.YtccmenekmmlboaaRef3
namespace Go.Gsl
set_option linter.unusedVariables false
open Go.Proofs

set_option maxHeartbeats 1000000 in
theorem rSame_ok (p1 p2 : Nat) (s t : Dk) : Spec Try.prog 48 [.pointer (some ⟨p1, 0, none⟩), .pointer (some ⟨p2, 0, none⟩)] [p1, p2] [REF p1 s, REF p2 t]
    fun F v Rs' => ∃ b : Bool, (b = true ↔ s.same t) ∧ v = .bool b ∧ Rs' = (p1, REF p1 s) :: (p2, REF p2 t) :: F := by
  refine spec_of Try.func48 rfl Try.ntmps48 rfl ?_
  intro w0 F
  refine REF.sc (p := p1) (s := s) fun x hx => ?_
  unfold REFl
  refine REF.sc (p := p2) (s := t) fun y hy => ?_
  unfold REFl
  have hn2 := hx.wf.n2
  repeat' (first | with_reducible refine sw_op ?_ | with_reducible refine sw_op_ ?_ | with_reducible refine sw_nil ?_ | with_reducible refine sq_then ?_ | with_reducible refine sc_seq ?_ | with_reducible refine sc_region ?_ | with_reducible refine sw_guard_skip ?_ | with_reducible refine sw_guard_skip_ ?_ | with_reducible refine sw_guard_run ?_ | with_reducible refine sc_cond_true ?_ | with_reducible refine sc_cond_false ?_ | with_reducible refine sc_ret ?_ | with_reducible refine sq_then_ret ?_ | with_reducible refine sc_skip ?_ | with_reducible refine sc_block ?_ | with_reducible refine sq_block ?_ | with_reducible refine sq_block_ret ?_ | with_reducible refine sc_exit ?_ | with_reducible refine sq_then_exit ?_ | with_reducible refine sq_block_exit ?_ | with_reducible refine sq_block_past ?_ | with_reducible refine sq_round_ret ?_ | with_reducible refine sq_round_exit ?_ | fail)
  refine sc_drawG (m := 11) ([(p1, pts p1 (rrow x.bN x.bU x.bD s.sure.length x.cN x.cU x.cD s.fuse x.kv s.calls s.down)), (p2, pts p2 (rrow y.bN y.bU y.bD t.sure.length y.cN y.cU y.cD t.fuse y.kv t.calls t.down))]) (by kernel_rfl) rfl ?_
  all_goals (first | refine sg_take 0 (by repeat' (first | with_reducible exact calm_post | with_reducible refine Calm.then ?_ | with_reducible refine Calm.block ?_ | with_reducible refine Calm.round ?_)) rfl (by kernel_rfl) (by kernel_rfl) (by kernel_rfl) ?_)
  all_goals (first | refine sg_take 1 (by repeat' (first | with_reducible exact calm_post | with_reducible refine Calm.then ?_ | with_reducible refine Calm.block ?_ | with_reducible refine Calm.round ?_)) rfl (by kernel_rfl) (by kernel_rfl) (by kernel_rfl) ?_)
  all_goals (first | refine sg_take 2 (by repeat' (first | with_reducible exact calm_post | with_reducible refine Calm.then ?_ | with_reducible refine Calm.block ?_ | with_reducible refine Calm.round ?_)) rfl (by kernel_rfl) (by kernel_rfl) (by kernel_rfl) ?_)
  all_goals (first | refine sg_take 3 (by repeat' (first | with_reducible exact calm_post | with_reducible refine Calm.then ?_ | with_reducible refine Calm.block ?_ | with_reducible refine Calm.round ?_)) rfl (by kernel_rfl) (by kernel_rfl) (by kernel_rfl) ?_)
  all_goals (first | refine sg_take 4 (by repeat' (first | with_reducible exact calm_post | with_reducible refine Calm.then ?_ | with_reducible refine Calm.block ?_ | with_reducible refine Calm.round ?_)) rfl (by kernel_rfl) (by kernel_rfl) (by kernel_rfl) ?_)
  all_goals (first | refine sg_take 5 (by repeat' (first | with_reducible exact calm_post | with_reducible refine Calm.then ?_ | with_reducible refine Calm.block ?_ | with_reducible refine Calm.round ?_)) rfl (by kernel_rfl) (by kernel_rfl) (by kernel_rfl) ?_)
  all_goals (first | refine sg_take 6 (by repeat' (first | with_reducible exact calm_post | with_reducible refine Calm.then ?_ | with_reducible refine Calm.block ?_ | with_reducible refine Calm.round ?_)) rfl (by kernel_rfl) (by kernel_rfl) (by kernel_rfl) ?_)
  all_goals (first | refine sg_take 7 (by repeat' (first | with_reducible exact calm_post | with_reducible refine Calm.then ?_ | with_reducible refine Calm.block ?_ | with_reducible refine Calm.round ?_)) rfl (by kernel_rfl) (by kernel_rfl) (by kernel_rfl) ?_)
  all_goals (first | refine sg_take 8 (by repeat' (first | with_reducible exact calm_post | with_reducible refine Calm.then ?_ | with_reducible refine Calm.block ?_ | with_reducible refine Calm.round ?_)) rfl (by kernel_rfl) (by kernel_rfl) (by kernel_rfl) ?_)
  all_goals (first | refine sg_take 9 (by repeat' (first | with_reducible exact calm_post | with_reducible refine Calm.then ?_ | with_reducible refine Calm.block ?_ | with_reducible refine Calm.round ?_)) rfl (by kernel_rfl) (by kernel_rfl) (by kernel_rfl) ?_)
  all_goals (first | refine sg_take 10 (by repeat' (first | with_reducible exact calm_post | with_reducible refine Calm.then ?_ | with_reducible refine Calm.block ?_ | with_reducible refine Calm.round ?_)) rfl (by kernel_rfl) (by kernel_rfl) (by kernel_rfl) ?_)
  all_goals (refine sg_done (by kernel_rfl) rfl ?_)
  have hE : Ent ((p1, pts p1 (rrow x.bN x.bU x.bD s.sure.length x.cN x.cU x.cD s.fuse x.kv s.calls s.down)) :: (x.bN, pts x.bN (strs s.fN s.sure.length x.rN)) :: (x.bU, pts x.bU (strs s.fU s.sure.length x.rU)) :: (x.bD, pts x.bD (bools s.fD s.sure.length x.rD)) :: (x.q, RKeep x.kv s) ::
      (p2, pts p2 (rrow y.bN y.bU y.bD t.sure.length y.cN y.cU y.cD t.fuse y.kv t.calls t.down)) :: (y.bN, pts y.bN (strs t.fN t.sure.length y.rN)) :: (y.bU, pts y.bU (strs t.fU t.sure.length y.rU)) :: (y.bD, pts y.bD (bools t.fD t.sure.length y.rD)) :: (y.q, RKeep y.kv t) :: F) ((p1, REF p1 s) :: (p2, REF p2 t) :: F) :=
    Ent.trans (REF.close hx) (Ent.cons _ (REF.close hy))
  repeat' (first | with_reducible refine sw_op ?_ | with_reducible refine sw_op_ ?_ | with_reducible refine sw_nil ?_ | with_reducible refine sq_then ?_ | with_reducible refine sc_seq ?_ | with_reducible refine sc_region ?_ | with_reducible refine sw_guard_skip ?_ | with_reducible refine sw_guard_skip_ ?_ | with_reducible refine sw_guard_run ?_ | with_reducible refine sc_cond_true ?_ | with_reducible refine sc_cond_false ?_ | with_reducible refine sc_ret ?_ | with_reducible refine sq_then_ret ?_ | with_reducible refine sc_skip ?_ | with_reducible refine sc_block ?_ | with_reducible refine sq_block ?_ | with_reducible refine sq_block_ret ?_ | with_reducible refine sc_exit ?_ | with_reducible refine sq_then_exit ?_ | with_reducible refine sq_block_exit ?_ | with_reducible refine sq_block_past ?_ | with_reducible refine sq_round_ret ?_ | with_reducible refine sq_round_exit ?_ | (with_reducible refine sc_cond (fun h => ?_) (fun h => ?_)) <;> (try (exfalso; first | contradiction | omega | exact h Iff.rfl)) | fail)
  · refine sq_ret1 Try.results48 ?_
    refine ⟨_, ⟨false, ⟨fun h => (by cases h), fun h2 => absurd h2.1 (by omega)⟩, rfl, rfl⟩, Ent.trans ?_ hE⟩
    repeat' (first | with_reducible exact Ent.refl _ | with_reducible refine Ent.take_eq ?_ ?_ | rfl | with_reducible refine Ent.trans (Ent.drop _ _) ?_)
  · have hlen : s.sure.length = t.sure.length := by omega
    refine sc_loop (α := { i : Nat // i ≤ s.sure.length ∧ ∀ j : Nat, j < i → s.now j = t.now j }) (fun i => [(0, .pointer (some ⟨p1, 0, none⟩)), (1, .pointer (some ⟨p2, 0, none⟩)), (5, .int .i64 i.1)])
      (fun _ => (p1, pts p1 (rrow x.bN x.bU x.bD s.sure.length x.cN x.cU x.cD s.fuse x.kv s.calls s.down)) :: (p2, pts p2 (rrow y.bN y.bU y.bD t.sure.length y.cN y.cU y.cD t.fuse y.kv t.calls t.down)) :: (x.bN, pts x.bN (strs s.fN s.sure.length x.rN)) :: (y.bN, pts y.bN (strs t.fN t.sure.length y.rN)) :: (x.bU, pts x.bU (strs s.fU s.sure.length x.rU)) :: (x.bD, pts x.bD (bools s.fD s.sure.length x.rD)) :: (x.q, RKeep x.kv s) ::
       (y.bU, pts y.bU (strs t.fU t.sure.length y.rU)) :: (y.bD, pts y.bD (bools t.fD t.sure.length y.rD)) :: (y.q, RKeep y.kv t) :: F) (fun i => s.sure.length - i.1) ⟨0, Nat.zero_le _, fun j hj => by omega⟩ ?_ ?_ ?_
    · repeat' (first | exact says_nil | refine says_cons rfl ?_ | refine says_cons (by simp) ?_)
    · repeat' (first | with_reducible exact Ent.refl _ | with_reducible refine Ent.take_eq ?_ ?_ | rfl | with_reducible refine Ent.trans (Ent.drop _ _) ?_)
    rintro ⟨i, hi, hall⟩ e
    simp only [List.cons_append, List.nil_append]
    repeat' (first | with_reducible refine sw_op ?_ | with_reducible refine sw_op_ ?_ | with_reducible refine sw_nil ?_ | with_reducible refine sq_then ?_ | with_reducible refine sc_seq ?_ | with_reducible refine sc_region ?_ | with_reducible refine sw_guard_skip ?_ | with_reducible refine sw_guard_skip_ ?_ | with_reducible refine sw_guard_run ?_ | with_reducible refine sc_cond_true ?_ | with_reducible refine sc_cond_false ?_ | with_reducible refine sc_ret ?_ | with_reducible refine sq_then_ret ?_ | with_reducible refine sc_skip ?_ | with_reducible refine sc_block ?_ | with_reducible refine sq_block ?_ | with_reducible refine sq_block_ret ?_ | with_reducible refine sc_exit ?_ | with_reducible refine sq_then_exit ?_ | with_reducible refine sq_block_exit ?_ | with_reducible refine sq_block_past ?_ | with_reducible refine sq_round_ret ?_ | with_reducible refine sq_round_exit ?_ | (with_reducible refine sc_cond (fun h => ?_) (fun h => ?_)) <;> (try (exfalso; first | contradiction | omega | exact h Iff.rfl)) | fail)
    · have hlt : i < s.sure.length := by omega
      have w1 := Dk.now_wf hx.wf (a := i) (by omega) (by omega)
      have w2 := Dk.now_wf hy.wf (a := i) (by omega) (by omega)
      refine sc_drawG (m := 15) ([(p1, pts p1 (rrow x.bN x.bU x.bD s.sure.length x.cN x.cU x.cD s.fuse x.kv s.calls s.down)), (p2, pts p2 (rrow y.bN y.bU y.bD t.sure.length y.cN y.cU y.cD t.fuse y.kv t.calls t.down)), (x.bN, pts x.bN (strs s.fN s.sure.length x.rN)), (y.bN, pts y.bN (strs t.fN t.sure.length y.rN))]) (by kernel_rfl) rfl ?_
      all_goals (first | refine sg_take 0 (by repeat' (first | with_reducible exact calm_post | with_reducible refine Calm.then ?_ | with_reducible refine Calm.block ?_ | with_reducible refine Calm.round ?_)) rfl (by kernel_rfl) (by kernel_rfl) (by kernel_rfl) ?_)
      all_goals (first | refine sg_take 1 (by repeat' (first | with_reducible exact calm_post | with_reducible refine Calm.then ?_ | with_reducible refine Calm.block ?_ | with_reducible refine Calm.round ?_)) rfl (by kernel_rfl) (by kernel_rfl) (by kernel_rfl) ?_)
      all_goals (first | refine sg_take 2 (by repeat' (first | with_reducible exact calm_post | with_reducible refine Calm.then ?_ | with_reducible refine Calm.block ?_ | with_reducible refine Calm.round ?_)) rfl (by kernel_rfl) (by kernel_rfl) (by kernel_rfl) ?_)
      all_goals (first | refine sg_take 3 (by repeat' (first | with_reducible exact calm_post | with_reducible refine Calm.then ?_ | with_reducible refine Calm.block ?_ | with_reducible refine Calm.round ?_)) rfl (by kernel_rfl) (by kernel_rfl) (by kernel_rfl) ?_)
      all_goals (first | refine sg_take 4 (by repeat' (first | with_reducible exact calm_post | with_reducible refine Calm.then ?_ | with_reducible refine Calm.block ?_ | with_reducible refine Calm.round ?_)) rfl (by kernel_rfl) (by kernel_rfl) (by kernel_rfl) ?_)
      all_goals (first | refine sg_take 5 (by repeat' (first | with_reducible exact calm_post | with_reducible refine Calm.then ?_ | with_reducible refine Calm.block ?_ | with_reducible refine Calm.round ?_)) rfl (by kernel_rfl) (by kernel_rfl) (by kernel_rfl) (h := runop_idx i (by omega)) ?_ | refine sg_take 5 (by repeat' (first | with_reducible exact calm_post | with_reducible refine Calm.then ?_ | with_reducible refine Calm.block ?_ | with_reducible refine Calm.round ?_)) rfl (by kernel_rfl) (by kernel_rfl) (by kernel_rfl) ?_)
      all_goals (first | refine sg_take 6 (by repeat' (first | with_reducible exact calm_post | with_reducible refine Calm.then ?_ | with_reducible refine Calm.block ?_ | with_reducible refine Calm.round ?_)) rfl (by kernel_rfl) (by kernel_rfl) (by kernel_rfl) (h := runop_loadAt (Value.string (strB (s.now i))) (cellsOf_get (f := s.fN) hlt)) ?_ | refine sg_take 6 (by repeat' (first | with_reducible exact calm_post | with_reducible refine Calm.then ?_ | with_reducible refine Calm.block ?_ | with_reducible refine Calm.round ?_)) rfl (by kernel_rfl) (by kernel_rfl) (by kernel_rfl) ?_)
      all_goals (first | refine sg_take 7 (by repeat' (first | with_reducible exact calm_post | with_reducible refine Calm.then ?_ | with_reducible refine Calm.block ?_ | with_reducible refine Calm.round ?_)) rfl (by kernel_rfl) (by kernel_rfl) (by kernel_rfl) ?_)
      all_goals (first | refine sg_take 8 (by repeat' (first | with_reducible exact calm_post | with_reducible refine Calm.then ?_ | with_reducible refine Calm.block ?_ | with_reducible refine Calm.round ?_)) rfl (by kernel_rfl) (by kernel_rfl) (by kernel_rfl) ?_)
      all_goals (first | refine sg_take 9 (by repeat' (first | with_reducible exact calm_post | with_reducible refine Calm.then ?_ | with_reducible refine Calm.block ?_ | with_reducible refine Calm.round ?_)) rfl (by kernel_rfl) (by kernel_rfl) (by kernel_rfl) ?_)
      all_goals (first | refine sg_take 10 (by repeat' (first | with_reducible exact calm_post | with_reducible refine Calm.then ?_ | with_reducible refine Calm.block ?_ | with_reducible refine Calm.round ?_)) rfl (by kernel_rfl) (by kernel_rfl) (by kernel_rfl) ?_)
      all_goals (first | refine sg_take 11 (by repeat' (first | with_reducible exact calm_post | with_reducible refine Calm.then ?_ | with_reducible refine Calm.block ?_ | with_reducible refine Calm.round ?_)) rfl (by kernel_rfl) (by kernel_rfl) (by kernel_rfl) ?_)
      all_goals (first | refine sg_take 12 (by repeat' (first | with_reducible exact calm_post | with_reducible refine Calm.then ?_ | with_reducible refine Calm.block ?_ | with_reducible refine Calm.round ?_)) rfl (by kernel_rfl) (by kernel_rfl) (by kernel_rfl) (h := runop_idx i (by omega)) ?_ | refine sg_take 12 (by repeat' (first | with_reducible exact calm_post | with_reducible refine Calm.then ?_ | with_reducible refine Calm.block ?_ | with_reducible refine Calm.round ?_)) rfl (by kernel_rfl) (by kernel_rfl) (by kernel_rfl) ?_)
      all_goals (first | refine sg_take 13 (by repeat' (first | with_reducible exact calm_post | with_reducible refine Calm.then ?_ | with_reducible refine Calm.block ?_ | with_reducible refine Calm.round ?_)) rfl (by kernel_rfl) (by kernel_rfl) (by kernel_rfl) (h := runop_loadAt (Value.string (strB (t.now i))) (cellsOf_get (f := t.fN) (by omega))) ?_ | refine sg_take 13 (by repeat' (first | with_reducible exact calm_post | with_reducible refine Calm.then ?_ | with_reducible refine Calm.block ?_ | with_reducible refine Calm.round ?_)) rfl (by kernel_rfl) (by kernel_rfl) (by kernel_rfl) ?_)
      all_goals (first | refine sg_take 14 (by repeat' (first | with_reducible exact calm_post | with_reducible refine Calm.then ?_ | with_reducible refine Calm.block ?_ | with_reducible refine Calm.round ?_)) rfl (by kernel_rfl) (by kernel_rfl) (by kernel_rfl) ?_)
      all_goals (refine sg_done (by kernel_rfl) rfl ?_)
      rw [strB_eq w1.byte w2.byte]
      repeat' (first | with_reducible refine sw_in (by omega) ?_ | with_reducible refine sw_op ?_ | with_reducible refine sw_op_ ?_ | with_reducible refine sw_nil ?_ | with_reducible refine sq_then ?_ | with_reducible refine sc_seq ?_ | with_reducible refine sc_region ?_ | with_reducible refine sw_guard_skip ?_ | with_reducible refine sw_guard_skip_ ?_ | with_reducible refine sw_guard_run ?_ | with_reducible refine sc_cond_true ?_ | with_reducible refine sc_cond_false ?_ | with_reducible refine sc_ret ?_ | with_reducible refine sq_then_ret ?_ | with_reducible refine sc_skip ?_ | with_reducible refine sc_block ?_ | with_reducible refine sq_block ?_ | with_reducible refine sq_block_ret ?_ | with_reducible refine sc_exit ?_ | with_reducible refine sq_then_exit ?_ | with_reducible refine sq_block_exit ?_ | with_reducible refine sq_block_past ?_ | with_reducible refine sq_round_ret ?_ | with_reducible refine sq_round_exit ?_ | (with_reducible refine sc_cond (fun h => ?_) (fun h => ?_)) <;> (try (exfalso; first | contradiction | omega | exact h Iff.rfl)) | fail)
      · refine sq_ret1 Try.results48 ?_
        refine ⟨_, ⟨false, ⟨fun h => (by cases h), fun h2 => absurd (h2.2 i hlt) h⟩, rfl, rfl⟩, Ent.trans ?_ hE⟩
        repeat' (first | with_reducible exact Ent.refl _ | with_reducible refine Ent.take_eq ?_ ?_ | rfl | with_reducible refine Ent.trans (Ent.drop _ _) ?_)
      · refine sq_round ⟨i + 1, hlt, fun j hj => ?_⟩ ?_ ?_ ?_
        · rcases Nat.lt_or_ge j i with h2 | h2
          · exact hall j h2
          · obtain rfl : j = i := by omega
            exact Decidable.not_not.1 h
        · show s.sure.length - (i + 1) < s.sure.length - i
          omega
        · repeat' (first | exact says_nil | refine says_cons rfl ?_ | refine says_cons (by simp) ?_)
        · repeat' (first | with_reducible exact Ent.refl _ | with_reducible refine Ent.take_eq ?_ ?_ | rfl | with_reducible refine Ent.trans (Ent.drop _ _) ?_)
    · refine sq_ret1 Try.results48 ?_
      refine ⟨_, ⟨true, ⟨fun _ => ⟨by omega, fun j hj => hall j (by omega)⟩, fun _ => rfl⟩, rfl, rfl⟩, Ent.trans ?_ hE⟩
      repeat' (first | with_reducible exact Ent.refl _ | with_reducible refine Ent.take_eq ?_ ?_ | rfl | with_reducible refine Ent.trans (Ent.drop _ _) ?_)

theorem rNew_bad (n : Int) (hn : n < 1 ∨ 16384 < n) : Spec Try.prog 46 [.int .i64 n] [] [] fun F v Rs' => v = .tuple #[.pointer none, .int .i64 1] ∧ Rs' = F := by
  refine spec_of Try.func46 rfl Try.ntmps46 rfl ?_
  intro w0 F
  repeat' (first | with_reducible refine sw_op ?_ | with_reducible refine sw_op_ ?_ | with_reducible refine sw_nil ?_ | with_reducible refine sq_then ?_ | with_reducible refine sc_seq ?_ | with_reducible refine sc_region ?_ | with_reducible refine sw_guard_skip ?_ | with_reducible refine sw_guard_skip_ ?_ | with_reducible refine sw_guard_run ?_ | with_reducible refine sc_cond_true ?_ | with_reducible refine sc_cond_false ?_ | with_reducible refine sc_ret ?_ | with_reducible refine sq_then_ret ?_ | with_reducible refine sc_skip ?_ | with_reducible refine sc_block ?_ | with_reducible refine sq_block ?_ | with_reducible refine sq_block_ret ?_ | with_reducible refine sc_exit ?_ | with_reducible refine sq_then_exit ?_ | with_reducible refine sq_block_exit ?_ | with_reducible refine sq_block_past ?_ | with_reducible refine sq_round_ret ?_ | with_reducible refine sq_round_exit ?_ | (with_reducible refine sc_cond (fun h => ?_) (fun h => ?_)) <;> (try (exfalso; first | contradiction | omega | exact h Iff.rfl)) | (with_reducible refine sw_guard_split (fun h => ?_) (fun h => ?_)) <;> (try (exfalso; first | contradiction | omega | exact h Iff.rfl)) | (with_reducible refine sw_pick (fun h => ?_) (fun h => ?_)) <;> (try (exfalso; first | contradiction | omega | exact h Iff.rfl)) | fail)
  all_goals
    refine sq_ret2 Try.results46 ?_
    exact ⟨_, ⟨rfl, rfl⟩, Ent.refl _⟩

abbrev rrow0 (bD n : Nat) : Obj := .cells [.slice none 0 0, .slice none 0 0, .slice (some ⟨bD, 0, none⟩) n n, .int .i64 0, .slice none 0 0, .int .i64 0, .bool false].toArray 122 (0, 0)
abbrev rrowG (bN bU bD i n cN cU : Nat) : Obj := .cells [.slice (some ⟨bN, 0, none⟩) i cN, .slice (some ⟨bU, 0, none⟩) i cU, .slice (some ⟨bD, 0, none⟩) n n, .int .i64 0, .slice none 0 0, .int .i64 0, .bool false].toArray 122 (0, 0)
/-- the rows that grow -/
def RNewB (p bD n i : Nat) : HProp := hor (hand (i = 0) (hall [(p, pts p (rrow0 bD n))]))
  (hex fun y : (Nat × Nat) × List Value × List Value => hall [(p, pts p (rrowG y.1.1 y.1.2 bD i n (i + y.2.1.length) (i + y.2.2.length))), (y.1.1, pts y.1.1 (strs (fun _ => strV (List.replicate 512 0)) i y.2.1)), (y.1.2, pts y.1.2 (strs (fun _ => strV (List.replicate 512 0)) i y.2.2))])

theorem cellsOf_one (z : Value) : [z] = cellsOf (fun _ => z) 1 := rfl
theorem cellsOf_next (z : Value) (i : Nat) (r r2 : List Value) : (cellsOf (fun _ => z) i ++ r).take i ++ [z] ++ r2 = cellsOf (fun _ => z) (i + 1) ++ r2 := by
  rw [List.take_left' (cellsOf_len _ _)]
  congr 1
  unfold cellsOf
  rw [List.range_succ, List.map_append]; rfl

set_option maxHeartbeats 1000000 in
set_option maxRecDepth 20000 in
theorem rNew_ok (n : Nat) (h1 : 1 ≤ n) (h2 : n ≤ 16384) : Spec Try.prog 46 [.int .i64 n] [] [] fun F v Rs' => ∃ p, v = .tuple #[.pointer (some ⟨p, 0, none⟩), .int .i64 0] ∧ Rs' = (p, REF p (Dk.new n)) :: F := by
  haveI : One (strV (List.replicate 512 0)) := ⟨rfl⟩
  refine spec_of Try.func46 rfl Try.ntmps46 rfl ?_
  intro w0 F
  repeat' (first | with_reducible refine sw_op ?_ | with_reducible refine sw_op_ ?_ | with_reducible refine sw_makeSlice 512 512 ⟨rfl, rfl, by omega, by omega, by omega⟩ fun bz => ?_ | with_reducible refine sw_nil ?_ | with_reducible refine sq_then ?_ | with_reducible refine sc_seq ?_ | with_reducible refine sc_region ?_ | with_reducible refine sw_guard_skip ?_ | with_reducible refine sw_guard_skip_ ?_ | with_reducible refine sw_guard_run ?_ | with_reducible refine sc_cond_true ?_ | with_reducible refine sc_cond_false ?_ | with_reducible refine sc_ret ?_ | with_reducible refine sq_then_ret ?_ | with_reducible refine sc_skip ?_ | with_reducible refine sc_block ?_ | with_reducible refine sq_block ?_ | with_reducible refine sq_block_ret ?_ | with_reducible refine sc_exit ?_ | with_reducible refine sq_then_exit ?_ | with_reducible refine sq_block_exit ?_ | with_reducible refine sq_block_past ?_ | with_reducible refine sq_round_ret ?_ | with_reducible refine sq_round_exit ?_ | (with_reducible refine sc_cond (fun h => ?_) (fun h => ?_)) <;> (try (exfalso; first | contradiction | omega | exact h Iff.rfl)) | (with_reducible refine sw_guard_split (fun h => ?_) (fun h => ?_)) <;> (try (exfalso; first | contradiction | omega | exact h Iff.rfl)) | (with_reducible refine sw_pick (fun h => ?_) (fun h => ?_)) <;> (try (exfalso; first | contradiction | omega | exact h Iff.rfl)) | fail)
  refine sw_bytes (List.replicate 512 0) ?_ (by rw [List.length_replicate]) ?_
  · exact fun w hw => reads_zeros.sat (k := bz) hw
  repeat' (first | with_reducible refine sw_op ?_ | with_reducible refine sw_op_ ?_ | with_reducible refine sw_nil ?_ | with_reducible refine sq_then ?_ | with_reducible refine sc_seq ?_ | with_reducible refine sc_region ?_ | with_reducible refine sw_guard_skip ?_ | with_reducible refine sw_guard_skip_ ?_ | with_reducible refine sw_guard_run ?_ | with_reducible refine sc_cond_true ?_ | with_reducible refine sc_cond_false ?_ | with_reducible refine sc_ret ?_ | with_reducible refine sq_then_ret ?_ | with_reducible refine sc_skip ?_ | with_reducible refine sc_block ?_ | with_reducible refine sq_block ?_ | with_reducible refine sq_block_ret ?_ | with_reducible refine sc_exit ?_ | with_reducible refine sq_then_exit ?_ | with_reducible refine sq_block_exit ?_ | with_reducible refine sq_block_past ?_ | with_reducible refine sq_round_ret ?_ | with_reducible refine sq_round_exit ?_ | fail)
  refine sw_makeSlice n n ⟨rfl, rfl, by omega, by omega, by omega⟩ fun bD => ?_
  refine sw_build [.slice none 0 0, .slice none 0 0, .slice (some ⟨bD, 0, none⟩) n n, .int .i64 0, .slice none 0 0, .int .i64 0, .bool false] rfl ?_
  refine sw_box fun p => ?_
  repeat' (first | with_reducible refine sw_op ?_ | with_reducible refine sw_op_ ?_ | with_reducible refine sw_nil ?_ | with_reducible refine sq_then ?_ | with_reducible refine sc_seq ?_ | with_reducible refine sc_region ?_ | with_reducible refine sw_guard_skip ?_ | with_reducible refine sw_guard_skip_ ?_ | with_reducible refine sw_guard_run ?_ | with_reducible refine sc_cond_true ?_ | with_reducible refine sc_cond_false ?_ | with_reducible refine sc_ret ?_ | with_reducible refine sq_then_ret ?_ | with_reducible refine sc_skip ?_ | with_reducible refine sc_block ?_ | with_reducible refine sq_block ?_ | with_reducible refine sq_block_ret ?_ | with_reducible refine sc_exit ?_ | with_reducible refine sq_then_exit ?_ | with_reducible refine sq_block_exit ?_ | with_reducible refine sq_block_past ?_ | with_reducible refine sq_round_ret ?_ | with_reducible refine sq_round_exit ?_ | fail)
  refine sc_loop (α := { i : Nat // i ≤ n }) (fun i => [(0, .int .i64 n), (4, strV (List.replicate 512 0)), (5, .pointer (some ⟨p, 0, none⟩)), (6, .int .i64 i.1)])
    (fun i => (p, RNewB p bD n i.1) :: (bD, pts bD (.cells (List.replicate n (Value.bool false)).toArray 4 (0, 0))) :: F) (fun i => n - i.1) ⟨0, Nat.zero_le _⟩ ?_ ?_ ?_
  · repeat' (first | exact says_nil | refine says_cons rfl ?_ | refine says_cons (by simp) ?_)
  · refine Ent.or1 (Ent.and1 rfl (Ent.hall1 ?_))
    simp only [List.cons_append, List.nil_append]
    repeat' (first | with_reducible exact Ent.refl _ | with_reducible refine Ent.take_eq ?_ ?_ | rfl | with_reducible refine Ent.trans (Ent.drop _ _) ?_)
  rintro ⟨i, hi⟩ e
  simp only [List.cons_append, List.nil_append]
  repeat' (first | with_reducible refine sw_op ?_ | with_reducible refine sw_op_ ?_ | with_reducible refine sw_nil ?_ | with_reducible refine sq_then ?_ | with_reducible refine sc_seq ?_ | with_reducible refine sc_region ?_ | with_reducible refine sw_guard_skip ?_ | with_reducible refine sw_guard_skip_ ?_ | with_reducible refine sw_guard_run ?_ | with_reducible refine sc_cond_true ?_ | with_reducible refine sc_cond_false ?_ | with_reducible refine sc_ret ?_ | with_reducible refine sq_then_ret ?_ | with_reducible refine sc_skip ?_ | with_reducible refine sc_block ?_ | with_reducible refine sq_block ?_ | with_reducible refine sq_block_ret ?_ | with_reducible refine sc_exit ?_ | with_reducible refine sq_then_exit ?_ | with_reducible refine sq_block_exit ?_ | with_reducible refine sq_block_past ?_ | with_reducible refine sq_round_ret ?_ | with_reducible refine sq_round_exit ?_ | (with_reducible refine sc_cond (fun h => ?_) (fun h => ?_)) <;> (try (exfalso; first | contradiction | omega | exact h Iff.rfl)) | fail)
  · unfold RNewB
    have hlt : i < n := by omega
    refine sw_or p (sw_and p fun hp0 => sw_hall p ?_) (sw_ex p fun y => sw_hall p ?_)
    · subst hp0
      simp only [List.cons_append, List.nil_append]
      repeat' (first | with_reducible refine sw_op ?_ | with_reducible refine sw_op_ ?_ | with_reducible refine sw_nil ?_ | with_reducible refine sq_then ?_ | with_reducible refine sc_seq ?_ | with_reducible refine sc_region ?_ | with_reducible refine sw_guard_skip ?_ | with_reducible refine sw_guard_skip_ ?_ | with_reducible refine sw_guard_run ?_ | with_reducible refine sc_cond_true ?_ | with_reducible refine sc_cond_false ?_ | with_reducible refine sc_ret ?_ | with_reducible refine sq_then_ret ?_ | with_reducible refine sc_skip ?_ | with_reducible refine sc_block ?_ | with_reducible refine sq_block ?_ | with_reducible refine sq_block_ret ?_ | with_reducible refine sc_exit ?_ | with_reducible refine sq_then_exit ?_ | with_reducible refine sq_block_exit ?_ | with_reducible refine sq_block_past ?_ | with_reducible refine sq_round_ret ?_ | with_reducible refine sq_round_exit ?_ | fail)
      refine sw_buildSlice [strV (List.replicate 512 0)] (by omega) rfl fun b0 => ?_
      repeat' (first | with_reducible refine sw_op ?_ | with_reducible refine sw_op_ ?_ | with_reducible refine sw_nil ?_ | with_reducible refine sq_then ?_ | with_reducible refine sc_seq ?_ | with_reducible refine sc_region ?_ | with_reducible refine sw_guard_skip ?_ | with_reducible refine sw_guard_skip_ ?_ | with_reducible refine sw_guard_run ?_ | with_reducible refine sc_cond_true ?_ | with_reducible refine sc_cond_false ?_ | with_reducible refine sc_ret ?_ | with_reducible refine sq_then_ret ?_ | with_reducible refine sc_skip ?_ | with_reducible refine sc_block ?_ | with_reducible refine sq_block ?_ | with_reducible refine sq_block_ret ?_ | with_reducible refine sc_exit ?_ | with_reducible refine sq_then_exit ?_ | with_reducible refine sq_block_exit ?_ | with_reducible refine sq_block_past ?_ | with_reducible refine sq_round_ret ?_ | with_reducible refine sq_round_exit ?_ | fail)
      refine sw_append_nil (src := [strV (List.replicate 512 0)]) src_pts0 ⟨by simp, rfl, by simp, by simp⟩ fun bN rN => ?_
      repeat' (first | with_reducible refine sw_op ?_ | with_reducible refine sw_op_ ?_ | with_reducible refine sw_store ?_ | with_reducible refine sw_nil ?_ | with_reducible refine sq_then ?_ | with_reducible refine sc_seq ?_ | with_reducible refine sc_region ?_ | with_reducible refine sw_guard_skip ?_ | with_reducible refine sw_guard_skip_ ?_ | with_reducible refine sw_guard_run ?_ | with_reducible refine sc_cond_true ?_ | with_reducible refine sc_cond_false ?_ | with_reducible refine sc_ret ?_ | with_reducible refine sq_then_ret ?_ | with_reducible refine sc_skip ?_ | with_reducible refine sc_block ?_ | with_reducible refine sq_block ?_ | with_reducible refine sq_block_ret ?_ | with_reducible refine sc_exit ?_ | with_reducible refine sq_then_exit ?_ | with_reducible refine sq_block_exit ?_ | with_reducible refine sq_block_past ?_ | with_reducible refine sq_round_ret ?_ | with_reducible refine sq_round_exit ?_ | fail)
      refine sw_buildSlice [strV (List.replicate 512 0)] (by omega) rfl fun b1 => ?_
      repeat' (first | with_reducible refine sw_op ?_ | with_reducible refine sw_op_ ?_ | with_reducible refine sw_nil ?_ | with_reducible refine sq_then ?_ | with_reducible refine sc_seq ?_ | with_reducible refine sc_region ?_ | with_reducible refine sw_guard_skip ?_ | with_reducible refine sw_guard_skip_ ?_ | with_reducible refine sw_guard_run ?_ | with_reducible refine sc_cond_true ?_ | with_reducible refine sc_cond_false ?_ | with_reducible refine sc_ret ?_ | with_reducible refine sq_then_ret ?_ | with_reducible refine sc_skip ?_ | with_reducible refine sc_block ?_ | with_reducible refine sq_block ?_ | with_reducible refine sq_block_ret ?_ | with_reducible refine sc_exit ?_ | with_reducible refine sq_then_exit ?_ | with_reducible refine sq_block_exit ?_ | with_reducible refine sq_block_past ?_ | with_reducible refine sq_round_ret ?_ | with_reducible refine sq_round_exit ?_ | fail)
      refine sw_append_nil (src := [strV (List.replicate 512 0)]) src_pts0 ⟨by simp, rfl, by simp, by simp⟩ fun bU rU => ?_
      repeat' (first | with_reducible refine sw_in (by omega) ?_ | with_reducible refine sw_op ?_ | with_reducible refine sw_op_ ?_ | with_reducible refine sw_store ?_ | with_reducible refine sw_nil ?_ | with_reducible refine sq_then ?_ | with_reducible refine sc_seq ?_ | with_reducible refine sc_region ?_ | with_reducible refine sw_guard_skip ?_ | with_reducible refine sw_guard_skip_ ?_ | with_reducible refine sw_guard_run ?_ | with_reducible refine sc_cond_true ?_ | with_reducible refine sc_cond_false ?_ | with_reducible refine sc_ret ?_ | with_reducible refine sq_then_ret ?_ | with_reducible refine sc_skip ?_ | with_reducible refine sc_block ?_ | with_reducible refine sq_block ?_ | with_reducible refine sq_block_ret ?_ | with_reducible refine sc_exit ?_ | with_reducible refine sq_then_exit ?_ | with_reducible refine sq_block_exit ?_ | with_reducible refine sq_block_past ?_ | with_reducible refine sq_round_ret ?_ | with_reducible refine sq_round_exit ?_ | fail)
      refine sq_round ⟨1, h1⟩ ?_ ?_ ?_
      · show n - 1 < n - 0
        omega
      · repeat' (first | exact says_nil | refine says_cons rfl ?_ | refine says_cons (by simp) ?_)
      · refine Ent.or2 (Ent.ex1 ((bN, bU), rN, rU) (Ent.hall1 ?_))
        simp only [List.cons_append, List.nil_append]
        repeat' (first | with_reducible exact Ent.refl _ | with_reducible refine Ent.take_eq ?_ ?_ | rfl | with_reducible refine Ent.trans (Ent.drop _ _) ?_)
    · obtain ⟨⟨bN, bU⟩, rN, rU⟩ := y
      simp only [List.cons_append, List.nil_append]
      repeat' (first | with_reducible refine sw_op ?_ | with_reducible refine sw_op_ ?_ | with_reducible refine sw_nil ?_ | with_reducible refine sq_then ?_ | with_reducible refine sc_seq ?_ | with_reducible refine sc_region ?_ | with_reducible refine sw_guard_skip ?_ | with_reducible refine sw_guard_skip_ ?_ | with_reducible refine sw_guard_run ?_ | with_reducible refine sc_cond_true ?_ | with_reducible refine sc_cond_false ?_ | with_reducible refine sc_ret ?_ | with_reducible refine sq_then_ret ?_ | with_reducible refine sc_skip ?_ | with_reducible refine sc_block ?_ | with_reducible refine sq_block ?_ | with_reducible refine sq_block_ret ?_ | with_reducible refine sc_exit ?_ | with_reducible refine sq_then_exit ?_ | with_reducible refine sq_block_exit ?_ | with_reducible refine sq_block_past ?_ | with_reducible refine sq_round_ret ?_ | with_reducible refine sq_round_exit ?_ | fail)
      refine sw_buildSlice [strV (List.replicate 512 0)] (by omega) rfl fun b0 => ?_
      repeat' (first | with_reducible refine sw_op ?_ | with_reducible refine sw_op_ ?_ | with_reducible refine sw_nil ?_ | with_reducible refine sq_then ?_ | with_reducible refine sc_seq ?_ | with_reducible refine sc_region ?_ | with_reducible refine sw_guard_skip ?_ | with_reducible refine sw_guard_skip_ ?_ | with_reducible refine sw_guard_run ?_ | with_reducible refine sc_cond_true ?_ | with_reducible refine sc_cond_false ?_ | with_reducible refine sc_ret ?_ | with_reducible refine sq_then_ret ?_ | with_reducible refine sc_skip ?_ | with_reducible refine sc_block ?_ | with_reducible refine sq_block ?_ | with_reducible refine sq_block_ret ?_ | with_reducible refine sc_exit ?_ | with_reducible refine sq_then_exit ?_ | with_reducible refine sq_block_exit ?_ | with_reducible refine sq_block_past ?_ | with_reducible refine sq_round_ret ?_ | with_reducible refine sq_round_exit ?_ | fail)
      refine sw_append (src := [strV (List.replicate 512 0)]) src_pts0 (by simp [Value.oneCell', strV]) ⟨by omega, by rw [List.length_append, cellsOf_len], rfl, by simp only [List.length_singleton]; omega, by simp only [List.length_singleton]; omega⟩ fun bN2 rN2 => ?_
      rw [cellsOf_next]
      repeat' (first | with_reducible refine sw_op ?_ | with_reducible refine sw_op_ ?_ | with_reducible refine sw_store ?_ | with_reducible refine sw_nil ?_ | with_reducible refine sq_then ?_ | with_reducible refine sc_seq ?_ | with_reducible refine sc_region ?_ | with_reducible refine sw_guard_skip ?_ | with_reducible refine sw_guard_skip_ ?_ | with_reducible refine sw_guard_run ?_ | with_reducible refine sc_cond_true ?_ | with_reducible refine sc_cond_false ?_ | with_reducible refine sc_ret ?_ | with_reducible refine sq_then_ret ?_ | with_reducible refine sc_skip ?_ | with_reducible refine sc_block ?_ | with_reducible refine sq_block ?_ | with_reducible refine sq_block_ret ?_ | with_reducible refine sc_exit ?_ | with_reducible refine sq_then_exit ?_ | with_reducible refine sq_block_exit ?_ | with_reducible refine sq_block_past ?_ | with_reducible refine sq_round_ret ?_ | with_reducible refine sq_round_exit ?_ | fail)
      refine sw_buildSlice [strV (List.replicate 512 0)] (by omega) rfl fun b1 => ?_
      repeat' (first | with_reducible refine sw_op ?_ | with_reducible refine sw_op_ ?_ | with_reducible refine sw_nil ?_ | with_reducible refine sq_then ?_ | with_reducible refine sc_seq ?_ | with_reducible refine sc_region ?_ | with_reducible refine sw_guard_skip ?_ | with_reducible refine sw_guard_skip_ ?_ | with_reducible refine sw_guard_run ?_ | with_reducible refine sc_cond_true ?_ | with_reducible refine sc_cond_false ?_ | with_reducible refine sc_ret ?_ | with_reducible refine sq_then_ret ?_ | with_reducible refine sc_skip ?_ | with_reducible refine sc_block ?_ | with_reducible refine sq_block ?_ | with_reducible refine sq_block_ret ?_ | with_reducible refine sc_exit ?_ | with_reducible refine sq_then_exit ?_ | with_reducible refine sq_block_exit ?_ | with_reducible refine sq_block_past ?_ | with_reducible refine sq_round_ret ?_ | with_reducible refine sq_round_exit ?_ | fail)
      refine sw_append (src := [strV (List.replicate 512 0)]) src_pts0 (by simp [Value.oneCell', strV]) ⟨by omega, by rw [List.length_append, cellsOf_len], rfl, by simp only [List.length_singleton]; omega, by simp only [List.length_singleton]; omega⟩ fun bU2 rU2 => ?_
      rw [cellsOf_next]
      repeat' (first | with_reducible refine sw_in (by omega) ?_ | with_reducible refine sw_op ?_ | with_reducible refine sw_op_ ?_ | with_reducible refine sw_store ?_ | with_reducible refine sw_nil ?_ | with_reducible refine sq_then ?_ | with_reducible refine sc_seq ?_ | with_reducible refine sc_region ?_ | with_reducible refine sw_guard_skip ?_ | with_reducible refine sw_guard_skip_ ?_ | with_reducible refine sw_guard_run ?_ | with_reducible refine sc_cond_true ?_ | with_reducible refine sc_cond_false ?_ | with_reducible refine sc_ret ?_ | with_reducible refine sq_then_ret ?_ | with_reducible refine sc_skip ?_ | with_reducible refine sc_block ?_ | with_reducible refine sq_block ?_ | with_reducible refine sq_block_ret ?_ | with_reducible refine sc_exit ?_ | with_reducible refine sq_then_exit ?_ | with_reducible refine sq_block_exit ?_ | with_reducible refine sq_block_past ?_ | with_reducible refine sq_round_ret ?_ | with_reducible refine sq_round_exit ?_ | fail)
      refine sq_round ⟨i + 1, hlt⟩ ?_ ?_ ?_
      · show n - (i + 1) < n - i
        omega
      · repeat' (first | exact says_nil | refine says_cons rfl ?_ | refine says_cons (by simp) ?_)
      · refine Ent.or2 (Ent.ex1 ((bN2, bU2), rN2, rU2) (Ent.hall1 ?_))
        simp only [List.cons_append, List.nil_append]
        repeat' (first | with_reducible exact Ent.refl _ | with_reducible refine Ent.take_eq ?_ ?_ | rfl | with_reducible refine Ent.trans (Ent.drop _ _) ?_)
  · have hin : i = n := by omega
    subst hin
    unfold RNewB
    refine sq_or p (sq_and p fun h0 => by omega) (sq_ex p fun y => sq_hall p ?_)
    obtain ⟨⟨bN, bU⟩, rN, rU⟩ := y
    simp only [List.cons_append, List.nil_append]
    refine sq_ent (Ent.dup_take (k := bD) (k' := bD + 1) (r' := RKeep (.slice none 0 0) (Dk.new i)) fun _ _ hf => absurd rfl hf) ?_
    refine sq_ret2 Try.results46 ?_
    refine ⟨_, ⟨p, rfl, rfl⟩, Ent.trans (B := REFl p (Dk.new i) ⟨bN, bU, bD, bD + 1, i + rN.length, i + rU.length, i, .slice none 0 0, rN, rU, []⟩ F) ?_ (REF.close ⟨Dk.new_wf h1 h2, rfl⟩)⟩
    have eL : (Dk.new i).sure.length = i := by show (List.replicate i _).length = i; rw [List.length_replicate]
    have eN : strs (fun _ => strV (List.replicate 512 0)) i rN = strs (Dk.new i).fN i rN := row_congr fun j hj => by
      unfold Dk.fN
      rw [Dk.now_sure rfl, Int.toNat_natCast]
      show _ = strV (((List.replicate i (List.replicate 512 (0 : Int)))[j]?).getD [])
      rw [List.getElem?_replicate, if_pos hj]; rfl
    have eU : strs (fun _ => strV (List.replicate 512 0)) i rU = strs (Dk.new i).fU i rU := row_congr fun j hj => by
      unfold Dk.fU
      show _ = strV (((List.replicate i (List.replicate 512 (0 : Int)))[j]?).getD [])
      rw [List.getElem?_replicate, if_pos hj]; rfl
    have eD : (Obj.cells (List.replicate i (Value.bool false)).toArray 4 (0, 0)) = bools (Dk.new i).fD i [] := by
      show _ = Obj.cells (cellsOf (fun _ => Value.bool false) i ++ []).toArray 4 (0, 0)
      rw [List.append_nil]
      unfold cellsOf
      rw [List.map_const', List.length_range]
    rw [eN, eU, eD]
    unfold REFl
    rw [eL]
    repeat' (first | with_reducible exact Ent.refl _ | with_reducible refine Ent.take_eq ?_ ?_ | rfl | with_reducible refine Ent.trans (Ent.drop _ _) ?_)
end Go.Gsl
