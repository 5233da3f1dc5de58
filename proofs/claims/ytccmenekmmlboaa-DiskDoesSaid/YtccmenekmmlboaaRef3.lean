/- The document's disk: fuses, writes, barriers. -/
import Derived.Test.YtccmenekmmlboaaRef2
namespace Go.Gsl
set_option linter.unusedVariables false
open Go.Proofs

theorem rSetFuse_neg (p k : Nat) (s : Dk) (r : HProp) (kv : Value) (n : Int) (hn : n < 0) : Spec Try.prog 83 [.pointer (some ⟨p, 0, none⟩), .int .i64 n, kv] [p, k] [REF p s, r]
    fun F v Rs' => v = .int .i64 1 ∧ Rs' = (p, REF p s) :: (k, r) :: F := by
  refine spec_of Try.func83 rfl Try.ntmps83 rfl ?_
  intro w0 F
  repeat' (first | with_reducible refine sw_op ?_ | with_reducible refine sw_op_ ?_ | with_reducible refine sw_nil ?_ | with_reducible refine sq_then ?_ | with_reducible refine sc_seq ?_ | with_reducible refine sc_region ?_ | with_reducible refine sw_guard_skip ?_ | with_reducible refine sw_guard_skip_ ?_ | with_reducible refine sw_guard_run ?_ | with_reducible refine sc_cond_true ?_ | with_reducible refine sc_cond_false ?_ | with_reducible refine sc_ret ?_ | with_reducible refine sq_then_ret ?_ | with_reducible refine sc_skip ?_ | with_reducible refine sc_block ?_ | with_reducible refine sq_block ?_ | with_reducible refine sq_block_ret ?_ | with_reducible refine sc_exit ?_ | with_reducible refine sq_then_exit ?_ | with_reducible refine sq_block_exit ?_ | with_reducible refine sq_block_past ?_ | with_reducible refine sq_round_ret ?_ | with_reducible refine sq_round_exit ?_ | (with_reducible refine sc_cond (fun h => ?_) (fun h => ?_)) <;> (try (exfalso; first | contradiction | omega | exact h Iff.rfl)) | fail)
  refine sq_ret1 Try.results83 ?_
  exact ⟨_, ⟨rfl, rfl⟩, Ent.refl _⟩

theorem rSetFuse_ok (p k : Nat) (s : Dk) (r : HProp) (kv : Value) (bs : List Bool) (n : Int) (hn : 0 ≤ n) (hn2 : n ≤ 9223372036854775807) (hr : RdBools r kv bs) (hl : bs.length ≤ 140737488355328) : Spec Try.prog 83 [.pointer (some ⟨p, 0, none⟩), .int .i64 n, kv] [p, k] [REF p s, r]
    fun F v Rs' => v = .int .i64 0 ∧ Rs' = (p, REF p (s.fused n bs)) :: (k, r) :: F := by
  obtain ⟨a, c, rfl, ha, hr⟩ := hr
  refine spec_of Try.func83 rfl Try.ntmps83 rfl ?_
  intro w0 F
  refine REF.sc (p := p) (s := s) fun x hx => ?_
  haveI : One x.kv := ⟨hx.one⟩
  unfold REFl
  repeat' (first | with_reducible refine sw_op ?_ | with_reducible refine sw_op_ ?_ | with_reducible refine sw_store ?_ | with_reducible refine sw_nil ?_ | with_reducible refine sq_then ?_ | with_reducible refine sc_seq ?_ | with_reducible refine sc_region ?_ | with_reducible refine sw_guard_skip ?_ | with_reducible refine sw_guard_skip_ ?_ | with_reducible refine sw_guard_run ?_ | with_reducible refine sc_cond_true ?_ | with_reducible refine sc_cond_false ?_ | with_reducible refine sc_ret ?_ | with_reducible refine sq_then_ret ?_ | with_reducible refine sc_skip ?_ | with_reducible refine sc_block ?_ | with_reducible refine sq_block ?_ | with_reducible refine sq_block_ret ?_ | with_reducible refine sc_exit ?_ | with_reducible refine sq_then_exit ?_ | with_reducible refine sq_block_exit ?_ | with_reducible refine sq_block_past ?_ | with_reducible refine sq_round_ret ?_ | with_reducible refine sq_round_exit ?_ | (with_reducible refine sc_cond (fun h => ?_) (fun h => ?_)) <;> (try (exfalso; first | contradiction | omega | exact h Iff.rfl)) | fail)
  rcases Nat.eq_zero_or_pos bs.length with hz | hz
  · have hb0 : bs = [] := List.eq_nil_of_length_eq_zero hz
    refine sw_append_nil0 hz ?_
    repeat' (first | with_reducible refine sw_op ?_ | with_reducible refine sw_op_ ?_ | with_reducible refine sw_store ?_ | with_reducible refine sw_nil ?_ | with_reducible refine sq_then ?_ | with_reducible refine sc_seq ?_ | with_reducible refine sc_region ?_ | with_reducible refine sw_guard_skip ?_ | with_reducible refine sw_guard_skip_ ?_ | with_reducible refine sw_guard_run ?_ | with_reducible refine sc_cond_true ?_ | with_reducible refine sc_cond_false ?_ | with_reducible refine sc_ret ?_ | with_reducible refine sq_then_ret ?_ | with_reducible refine sc_skip ?_ | with_reducible refine sc_block ?_ | with_reducible refine sq_block ?_ | with_reducible refine sq_block_ret ?_ | with_reducible refine sc_exit ?_ | with_reducible refine sq_then_exit ?_ | with_reducible refine sq_block_exit ?_ | with_reducible refine sq_block_past ?_ | with_reducible refine sq_round_ret ?_ | with_reducible refine sq_round_exit ?_ | fail)
    refine sq_ret1 Try.results83 ?_
    refine ⟨_, ⟨rfl, rfl⟩, Ent.trans (B := REFl p (s.fused n bs) { x with kv := .slice none 0 0 } ((k, r) :: F)) ?_ (REF.close ⟨Dk.fused_wf hx.wf hn hn2 hl, rfl⟩)⟩
    unfold REFl
    refine Ent.take_eq rfl (Ent.take_eq rfl (Ent.take_eq rfl (Ent.take_eq rfl ?_)))
    refine Ent.take (fun h _ _ => .inl ⟨rfl, hb0⟩) ?_
    repeat' (first | with_reducible exact Ent.refl _ | with_reducible refine Ent.take_eq ?_ ?_ | rfl | with_reducible refine Ent.trans (Ent.drop _ _) ?_)
  · refine sw_append_nil (src := bs.map Value.bool) (fun w hw => hr.sat (k := k) hw) ⟨hz, by rw [List.length_map], by omega, by omega⟩ fun b t => ?_
    refine sw_freeze (b := b) ?_
    repeat' (first | with_reducible refine sw_op ?_ | with_reducible refine sw_op_ ?_ | with_reducible refine sw_store ?_ | with_reducible refine sw_nil ?_ | with_reducible refine sq_then ?_ | with_reducible refine sc_seq ?_ | with_reducible refine sc_region ?_ | with_reducible refine sw_guard_skip ?_ | with_reducible refine sw_guard_skip_ ?_ | with_reducible refine sw_guard_run ?_ | with_reducible refine sc_cond_true ?_ | with_reducible refine sc_cond_false ?_ | with_reducible refine sc_ret ?_ | with_reducible refine sq_then_ret ?_ | with_reducible refine sc_skip ?_ | with_reducible refine sc_block ?_ | with_reducible refine sq_block ?_ | with_reducible refine sq_block_ret ?_ | with_reducible refine sc_exit ?_ | with_reducible refine sq_then_exit ?_ | with_reducible refine sq_block_exit ?_ | with_reducible refine sq_block_past ?_ | with_reducible refine sq_round_ret ?_ | with_reducible refine sq_round_exit ?_ | fail)
    refine sq_ret1 Try.results83 ?_
    refine ⟨_, ⟨rfl, rfl⟩, Ent.trans (B := REFl p (s.fused n bs) { x with kv := .slice (some ⟨b, 0, none⟩) bs.length (bs.length + t.length) } ((k, r) :: F)) ?_ (REF.close ⟨Dk.fused_wf hx.wf hn hn2 hl, rfl⟩)⟩
    unfold REFl
    refine Ent.take_eq rfl (Ent.take_eq rfl (Ent.take_eq rfl (Ent.take_eq rfl ?_)))
    refine Ent.trans (B := (x.q, RKeep x.kv s) :: (b, imm b (.cells (bs.map Value.bool ++ t).toArray 4 (0, 0))) :: (k, r) :: F) ?_ (Ent.join fun a1 b1 hd _ hi _ => .inr ⟨b, t, rfl, imm_right hd hi⟩)
    repeat' (first | with_reducible exact Ent.refl _ | with_reducible refine Ent.take_eq ?_ ?_ | rfl | with_reducible refine Ent.trans (Ent.drop _ _) ?_)

theorem wrote_now {s : Dk} {a : Int} {xs : List Int} (i : Int) : (s.wrote a xs).now i = if i = a then xs else s.now i := by
  show ((if i = a then some xs else s.dirty i : Option (List Int))).getD ((s.sure[i.toNat]?).getD []) = _
  split <;> rfl
theorem barred_sure {s : Dk} {i : Nat} (h : i < s.sure.length) : s.barred.sure[i]? = some (s.now i) := by
  show (mergeS s.dirty s.sure)[i]? = _
  unfold mergeS Dk.now
  rw [List.getElem?_mapIdx, List.getElem?_eq_getElem h, Int.toNat_natCast, List.getElem?_eq_getElem h]; rfl
theorem barred_now {s : Dk} {i : Nat} (h : i < s.sure.length) : s.barred.now i = s.now i := by
  rw [Dk.now_sure rfl, Int.toNat_natCast, barred_sure h]; rfl

theorem rWrite_bad (p k : Nat) (s : Dk) (r : HProp) (v : Value) (a : Int) (hb : s.looks a ≠ 0) : Spec Try.prog 79 [.pointer (some ⟨p, 0, none⟩), .int .i64 a, v] [p, k] [REF p s, r]
    fun F v Rs' => v = .int .i64 (s.looks a) ∧ Rs' = (p, REF p s) :: (k, r) :: F := by
  refine spec_of Try.func79 rfl Try.ntmps79 rfl ?_
  intro w0 F
  repeat' (first | with_reducible refine sw_op ?_ | with_reducible refine sw_op_ ?_ | ((with_reducible refine sw_call (rMay_ok p s a) ?_); rintro _ _ ⟨rfl, rfl⟩) | with_reducible refine sw_nil ?_ | with_reducible refine sq_then ?_ | with_reducible refine sc_seq ?_ | with_reducible refine sc_region ?_ | with_reducible refine sw_guard_skip ?_ | with_reducible refine sw_guard_skip_ ?_ | with_reducible refine sw_guard_run ?_ | with_reducible refine sc_cond_true ?_ | with_reducible refine sc_cond_false ?_ | with_reducible refine sc_ret ?_ | with_reducible refine sq_then_ret ?_ | with_reducible refine sc_skip ?_ | with_reducible refine sc_block ?_ | with_reducible refine sq_block ?_ | with_reducible refine sq_block_ret ?_ | with_reducible refine sc_exit ?_ | with_reducible refine sq_then_exit ?_ | with_reducible refine sq_block_exit ?_ | with_reducible refine sq_block_past ?_ | with_reducible refine sq_round_ret ?_ | with_reducible refine sq_round_exit ?_ | (with_reducible refine sc_cond (fun h => ?_) (fun h => ?_)) <;> (try (exfalso; first | contradiction | omega | exact h Iff.rfl)) | (with_reducible refine sw_guard_split (fun h => ?_) (fun h => ?_)) <;> (try (exfalso; first | contradiction | omega | exact h Iff.rfl)) | (with_reducible refine sw_pick (fun h => ?_) (fun h => ?_)) <;> (try (exfalso; first | contradiction | omega | exact h Iff.rfl)) | fail)
  refine sq_ret1 Try.results79 ?_
  exact ⟨_, ⟨rfl, rfl⟩, Ent.refl _⟩
theorem rWrite_len (p k : Nat) (s : Dk) (r : HProp) (ad : Option Addr) (m c : Nat) (a : Int) (hb : s.looks a = 0) (hm : m ≠ 512) : Spec Try.prog 79 [.pointer (some ⟨p, 0, none⟩), .int .i64 a, .slice ad m c] [p, k] [REF p s, r]
    fun F v Rs' => v = .int .i64 1 ∧ Rs' = (p, REF p s) :: (k, r) :: F := by
  refine spec_of Try.func79 rfl Try.ntmps79 rfl ?_
  intro w0 F
  repeat' (first | with_reducible refine sw_op ?_ | with_reducible refine sw_op_ ?_ | ((with_reducible refine sw_call (rMay_ok p s a) ?_); rintro _ _ ⟨rfl, rfl⟩) | with_reducible refine sw_nil ?_ | with_reducible refine sq_then ?_ | with_reducible refine sc_seq ?_ | with_reducible refine sc_region ?_ | with_reducible refine sw_guard_skip ?_ | with_reducible refine sw_guard_skip_ ?_ | with_reducible refine sw_guard_run ?_ | with_reducible refine sc_cond_true ?_ | with_reducible refine sc_cond_false ?_ | with_reducible refine sc_ret ?_ | with_reducible refine sq_then_ret ?_ | with_reducible refine sc_skip ?_ | with_reducible refine sc_block ?_ | with_reducible refine sq_block ?_ | with_reducible refine sq_block_ret ?_ | with_reducible refine sc_exit ?_ | with_reducible refine sq_then_exit ?_ | with_reducible refine sq_block_exit ?_ | with_reducible refine sq_block_past ?_ | with_reducible refine sq_round_ret ?_ | with_reducible refine sq_round_exit ?_ | (with_reducible refine sc_cond (fun h => ?_) (fun h => ?_)) <;> (try (exfalso; first | contradiction | omega | exact h Iff.rfl)) | (with_reducible refine sw_guard_split (fun h => ?_) (fun h => ?_)) <;> (try (exfalso; first | contradiction | omega | exact h Iff.rfl)) | (with_reducible refine sw_pick (fun h => ?_) (fun h => ?_)) <;> (try (exfalso; first | contradiction | omega | exact h Iff.rfl)) | fail)
  refine sq_ret1 Try.results79 ?_
  exact ⟨_, ⟨rfl, rfl⟩, Ent.refl _⟩

set_option maxHeartbeats 1000000 in
theorem rWrite_ok (p k : Nat) (s : Dk) (r : HProp) (ad : Option Addr) (c : Nat) (a : Int) (xs : List Int) (hb : s.looks a = 0) (hx : SecWf xs) (hr : Reads r ad (xs.map (Value.int .u8))) : Spec Try.prog 79 [.pointer (some ⟨p, 0, none⟩), .int .i64 a, .slice ad 512 c] [p, k] [REF p s, r]
    fun F v Rs' => (s.fuse ≠ 1 ∧ v = .int .i64 0 ∧ Rs' = (p, REF p (s.wrote a xs)) :: (k, r) :: F) ∨
      (s.fuse = 1 ∧ v = .int .i64 6 ∧ ∃ ks, KeysD (s.wrote a xs).dirty ks ∧ Rs' = (p, REF p ((s.wrote a xs).gone ks s.keep)) :: (k, r) :: F) := by
  obtain ⟨_, ha0, ha1⟩ := Dk.looks_zero hb
  obtain ⟨m, rfl⟩ : ∃ m : Nat, a = m := ⟨a.toNat, by omega⟩
  have hm : m < s.sure.length := by omega
  refine spec_of Try.func79 rfl Try.ntmps79 rfl ?_
  intro w0 F
  repeat' (first | with_reducible refine sw_op ?_ | with_reducible refine sw_op_ ?_ | ((with_reducible refine sw_call (rMay_ok p s m) ?_); rintro _ _ ⟨rfl, rfl⟩) | with_reducible refine sw_nil ?_ | with_reducible refine sq_then ?_ | with_reducible refine sc_seq ?_ | with_reducible refine sc_region ?_ | with_reducible refine sw_guard_skip ?_ | with_reducible refine sw_guard_skip_ ?_ | with_reducible refine sw_guard_run ?_ | with_reducible refine sc_cond_true ?_ | with_reducible refine sc_cond_false ?_ | with_reducible refine sc_ret ?_ | with_reducible refine sq_then_ret ?_ | with_reducible refine sc_skip ?_ | with_reducible refine sc_block ?_ | with_reducible refine sq_block ?_ | with_reducible refine sq_block_ret ?_ | with_reducible refine sc_exit ?_ | with_reducible refine sq_then_exit ?_ | with_reducible refine sq_block_exit ?_ | with_reducible refine sq_block_past ?_ | with_reducible refine sq_round_ret ?_ | with_reducible refine sq_round_exit ?_ | (with_reducible refine sc_cond (fun h => ?_) (fun h => ?_)) <;> (try (exfalso; first | contradiction | omega | exact h Iff.rfl)) | (with_reducible refine sw_guard_split (fun h => ?_) (fun h => ?_)) <;> (try (exfalso; first | contradiction | omega | exact h Iff.rfl)) | (with_reducible refine sw_pick (fun h => ?_) (fun h => ?_)) <;> (try (exfalso; first | contradiction | omega | exact h Iff.rfl)) | fail)
  refine REF.sw (p := p) (s := s) fun x hX => ?_
  haveI : One x.kv := ⟨hX.one⟩
  unfold REFl
  refine sw_call (rMeets_raw p x.bN x.bU x.bD s.sure.length x.cN x.cU x.cD s.fuse x.kv s.calls s.down hX.wf.f1 hX.wf.f2 hX.one) ?_
  rintro _ _ ⟨rfl, rfl⟩
  repeat' (first | with_reducible refine sw_op ?_ | with_reducible refine sw_op_ ?_ | with_reducible refine sw_nil ?_ | with_reducible refine sq_then ?_ | with_reducible refine sc_seq ?_ | with_reducible refine sc_region ?_ | with_reducible refine sw_guard_skip ?_ | with_reducible refine sw_guard_skip_ ?_ | with_reducible refine sw_guard_run ?_ | with_reducible refine sc_cond_true ?_ | with_reducible refine sc_cond_false ?_ | with_reducible refine sc_ret ?_ | with_reducible refine sq_then_ret ?_ | with_reducible refine sc_skip ?_ | with_reducible refine sc_block ?_ | with_reducible refine sq_block ?_ | with_reducible refine sq_block_ret ?_ | with_reducible refine sc_exit ?_ | with_reducible refine sq_then_exit ?_ | with_reducible refine sq_block_exit ?_ | with_reducible refine sq_block_past ?_ | with_reducible refine sq_round_ret ?_ | with_reducible refine sq_round_exit ?_ | fail)
  refine sc_drawG (m := 9) ([(p, pts p (rrow x.bN x.bU x.bD s.sure.length x.cN x.cU x.cD (if s.fuse = 0 then 0 else s.fuse - 1) x.kv (IntKind.i64.wrap (s.calls + 1)) s.down)), (k, r)]) (by kernel_rfl) rfl ?_
  all_goals (first | refine sg_take 0 (by repeat' (first | with_reducible exact calm_post | with_reducible refine Calm.then ?_ | with_reducible refine Calm.block ?_ | with_reducible refine Calm.round ?_)) rfl (by kernel_rfl) (by kernel_rfl) (by kernel_rfl) ?_)
  all_goals (first | refine sg_take 1 (by repeat' (first | with_reducible exact calm_post | with_reducible refine Calm.then ?_ | with_reducible refine Calm.block ?_ | with_reducible refine Calm.round ?_)) rfl (by kernel_rfl) (by kernel_rfl) (by kernel_rfl) ?_)
  all_goals (first | refine sg_take 2 (by repeat' (first | with_reducible exact calm_post | with_reducible refine Calm.then ?_ | with_reducible refine Calm.block ?_ | with_reducible refine Calm.round ?_)) rfl (by kernel_rfl) (by kernel_rfl) (by kernel_rfl) ?_)
  all_goals (first | refine sg_take 3 (by repeat' (first | with_reducible exact calm_post | with_reducible refine Calm.then ?_ | with_reducible refine Calm.block ?_ | with_reducible refine Calm.round ?_)) rfl (by kernel_rfl) (by kernel_rfl) (by kernel_rfl) ?_)
  all_goals (first | refine sg_take 4 (by repeat' (first | with_reducible exact calm_post | with_reducible refine Calm.then ?_ | with_reducible refine Calm.block ?_ | with_reducible refine Calm.round ?_)) rfl (by kernel_rfl) (by kernel_rfl) (by kernel_rfl) ?_)
  all_goals (first | refine sg_take 5 (by repeat' (first | with_reducible exact calm_post | with_reducible refine Calm.then ?_ | with_reducible refine Calm.block ?_ | with_reducible refine Calm.round ?_)) rfl (by kernel_rfl) (by kernel_rfl) (by kernel_rfl) ?_)
  all_goals (first | refine sg_take 6 (by repeat' (first | with_reducible exact calm_post | with_reducible refine Calm.then ?_ | with_reducible refine Calm.block ?_ | with_reducible refine Calm.round ?_)) rfl (by kernel_rfl) (by kernel_rfl) (by kernel_rfl) (h := runop_bytes (a := ad) (ns := xs) (fun w hw => hr.sat (k := k) hw) hx.len) ?_ | refine sg_take 6 (by repeat' (first | with_reducible exact calm_post | with_reducible refine Calm.then ?_ | with_reducible refine Calm.block ?_ | with_reducible refine Calm.round ?_)) rfl (by kernel_rfl) (by kernel_rfl) (by kernel_rfl) ?_)
  all_goals (first | refine sg_take 7 (by repeat' (first | with_reducible exact calm_post | with_reducible refine Calm.then ?_ | with_reducible refine Calm.block ?_ | with_reducible refine Calm.round ?_)) rfl (by kernel_rfl) (by kernel_rfl) (by kernel_rfl) (h := runop_idx m (by omega)) ?_ | refine sg_take 7 (by repeat' (first | with_reducible exact calm_post | with_reducible refine Calm.then ?_ | with_reducible refine Calm.block ?_ | with_reducible refine Calm.round ?_)) rfl (by kernel_rfl) (by kernel_rfl) (by kernel_rfl) ?_)
  all_goals (refine sg_one 8 rfl (by kernel_rfl) rfl ?_)
  all_goals (repeat' (first | with_reducible refine sw_op ?_ | with_reducible refine sw_op_ ?_ | with_reducible refine sw_storeAt (by rw [List.length_append, cellsOf_len]; omega) ?_ | with_reducible refine sg_back ?_ | with_reducible refine sw_nil ?_ | with_reducible refine sq_then ?_ | with_reducible refine sc_seq ?_ | with_reducible refine sc_region ?_ | with_reducible refine sw_guard_skip ?_ | with_reducible refine sw_guard_skip_ ?_ | with_reducible refine sw_guard_run ?_ | with_reducible refine sc_cond_true ?_ | with_reducible refine sc_cond_false ?_ | with_reducible refine sc_ret ?_ | with_reducible refine sq_then_ret ?_ | with_reducible refine sc_skip ?_ | with_reducible refine sc_block ?_ | with_reducible refine sq_block ?_ | with_reducible refine sq_block_ret ?_ | with_reducible refine sc_exit ?_ | with_reducible refine sq_then_exit ?_ | with_reducible refine sq_block_exit ?_ | with_reducible refine sq_block_past ?_ | with_reducible refine sq_round_ret ?_ | with_reducible refine sq_round_exit ?_ | fail))
  all_goals (refine sg_done (by kernel_rfl) rfl ?_)
  repeat' (first | with_reducible refine sw_op ?_ | with_reducible refine sw_op_ ?_ | with_reducible refine sw_nil ?_ | with_reducible refine sq_then ?_ | with_reducible refine sc_seq ?_ | with_reducible refine sc_region ?_ | with_reducible refine sw_guard_skip ?_ | with_reducible refine sw_guard_skip_ ?_ | with_reducible refine sw_guard_run ?_ | with_reducible refine sc_cond_true ?_ | with_reducible refine sc_cond_false ?_ | with_reducible refine sc_ret ?_ | with_reducible refine sq_then_ret ?_ | with_reducible refine sc_skip ?_ | with_reducible refine sc_block ?_ | with_reducible refine sq_block ?_ | with_reducible refine sq_block_ret ?_ | with_reducible refine sc_exit ?_ | with_reducible refine sq_then_exit ?_ | with_reducible refine sq_block_exit ?_ | with_reducible refine sq_block_past ?_ | with_reducible refine sq_round_ret ?_ | with_reducible refine sq_round_exit ?_ | fail)
  refine sw_idx m (by omega) ?_
  refine sw_storeAt (by rw [List.length_append, cellsOf_len]; omega) ?_
  rw [cellsOf_set hm, cellsOf_set hm]
  have hwf2 : (s.wrote m xs).Wf := Dk.wrote_wf (Dk.met_wf hX.wf) ha0 ha1 hx
  have eN : cellsOf (fun j => if j = m then Value.string (strB xs) else s.fN j) s.sure.length = cellsOf (s.wrote m xs).fN s.sure.length := cellsOf_congr fun j _ => by
    unfold Dk.fN
    rw [wrote_now]
    by_cases h : j = m
    · rw [if_pos h, if_pos (by omega)]; rfl
    · rw [if_neg h, if_neg (by omega)]
  have eD : cellsOf (fun j => if j = m then Value.bool true else s.fD j) s.sure.length = cellsOf (s.wrote m xs).fD s.sure.length := cellsOf_congr fun j _ => by
    show _ = Value.bool ((if (j : Int) = (m : Int) then some xs else s.dirty j : Option (List Int))).isSome
    by_cases h : j = m
    · rw [if_pos h, if_pos (by omega)]; rfl
    · rw [if_neg h, if_neg (by omega)]; rfl
  rw [eN, eD]
  repeat' (first | with_reducible refine sw_op ?_ | with_reducible refine sw_op_ ?_ | with_reducible refine sw_nil ?_ | with_reducible refine sq_then ?_ | with_reducible refine sc_seq ?_ | with_reducible refine sc_region ?_ | with_reducible refine sw_guard_skip ?_ | with_reducible refine sw_guard_skip_ ?_ | with_reducible refine sw_guard_run ?_ | with_reducible refine sc_cond_true ?_ | with_reducible refine sc_cond_false ?_ | with_reducible refine sc_ret ?_ | with_reducible refine sq_then_ret ?_ | with_reducible refine sc_skip ?_ | with_reducible refine sc_block ?_ | with_reducible refine sq_block ?_ | with_reducible refine sq_block_ret ?_ | with_reducible refine sc_exit ?_ | with_reducible refine sq_then_exit ?_ | with_reducible refine sq_block_exit ?_ | with_reducible refine sq_block_past ?_ | with_reducible refine sq_round_ret ?_ | with_reducible refine sq_round_exit ?_ | (with_reducible refine sc_cond (fun h => ?_) (fun h => ?_)) <;> (try (exfalso; first | contradiction | omega | exact h Iff.rfl)) | fail)
  · have hks := Dk.ks_ok hwf2
    refine sw_ent (Ent.dup_take (k := x.q) (k' := x.q + 1) (r' := BoolsI x.kv s.keep) fun _ hp => (hp (by omega)).fp) ?_
    refine sw_bools (x.q + 1) fun rr hrr => ?_
    repeat' (first | with_reducible refine sw_op ?_ | with_reducible refine sw_op_ ?_ | with_reducible refine sw_nil ?_ | with_reducible refine sq_then ?_ | with_reducible refine sc_seq ?_ | with_reducible refine sc_region ?_ | with_reducible refine sw_guard_skip ?_ | with_reducible refine sw_guard_skip_ ?_ | with_reducible refine sw_guard_run ?_ | with_reducible refine sc_cond_true ?_ | with_reducible refine sc_cond_false ?_ | with_reducible refine sc_ret ?_ | with_reducible refine sq_then_ret ?_ | with_reducible refine sc_skip ?_ | with_reducible refine sc_block ?_ | with_reducible refine sq_block ?_ | with_reducible refine sq_block_ret ?_ | with_reducible refine sc_exit ?_ | with_reducible refine sq_then_exit ?_ | with_reducible refine sq_block_exit ?_ | with_reducible refine sq_block_past ?_ | with_reducible refine sq_round_ret ?_ | with_reducible refine sq_round_exit ?_ | fail)
    refine sw_ent (Rs'' := (p, pts p (rrow x.bN x.bU x.bD (s.wrote m xs).sure.length x.cN x.cU x.cD (s.wrote m xs).fuse x.kv (s.wrote m xs).calls (s.wrote m xs).down)) :: (x.bN, pts x.bN (strs (s.wrote m xs).fN (s.wrote m xs).sure.length x.rN)) :: (x.bU, pts x.bU (strs (s.wrote m xs).fU (s.wrote m xs).sure.length x.rU)) :: (x.bD, pts x.bD (bools (s.wrote m xs).fD (s.wrote m xs).sure.length x.rD)) :: (x.q + 1, rr) :: (x.q, RKeep x.kv s) :: (k, r) :: F) ?_ ?_
    · repeat' (first | with_reducible exact Ent.refl _ | with_reducible refine Ent.take_eq ?_ ?_ | rfl | with_reducible refine Ent.trans (Ent.drop _ _) ?_)
    refine sw_call (rLose_raw p (x.q + 1) (s.wrote m xs) x rr x.kv s.keep _ _ _ (s.wrote m xs).ks hwf2 hX.one hrr hX.wf.k1 hks) ?_
    rintro _ _ ⟨rfl, rfl⟩
    repeat' (first | with_reducible refine sw_op ?_ | with_reducible refine sw_op_ ?_ | with_reducible refine sw_nil ?_ | with_reducible refine sq_then ?_ | with_reducible refine sc_seq ?_ | with_reducible refine sc_region ?_ | with_reducible refine sw_guard_skip ?_ | with_reducible refine sw_guard_skip_ ?_ | with_reducible refine sw_guard_run ?_ | with_reducible refine sc_cond_true ?_ | with_reducible refine sc_cond_false ?_ | with_reducible refine sc_ret ?_ | with_reducible refine sq_then_ret ?_ | with_reducible refine sc_skip ?_ | with_reducible refine sc_block ?_ | with_reducible refine sq_block ?_ | with_reducible refine sq_block_ret ?_ | with_reducible refine sc_exit ?_ | with_reducible refine sq_then_exit ?_ | with_reducible refine sq_block_exit ?_ | with_reducible refine sq_block_past ?_ | with_reducible refine sq_round_ret ?_ | with_reducible refine sq_round_exit ?_ | fail)
    refine sq_ret1 Try.results79 ?_
    refine ⟨_, .inr ⟨by assumption, rfl, (s.wrote m xs).ks, hks, rfl⟩, Ent.trans ?_ (REF.gone_close (fz := 0) (cl := (s.wrote m xs).calls) (q := RKeep x.kv s) ⟨hwf2, hX.one⟩ hks rfl)⟩
    repeat' (first | with_reducible exact Ent.refl _ | with_reducible refine Ent.take_eq ?_ ?_ | rfl | with_reducible refine Ent.trans (Ent.drop _ _) ?_)
  · refine sq_ret1 Try.results79 ?_
    refine ⟨_, .inl ⟨by assumption, rfl, rfl⟩, Ent.trans (B := REFl p (s.wrote m xs) x ((k, r) :: F)) ?_ (REF.close ⟨hwf2, hX.one⟩)⟩
    unfold REFl
    refine Ent.take_eq rfl (Ent.take_eq rfl (Ent.take_eq rfl (Ent.take_eq rfl ?_)))
    refine Ent.take (fun h hp hf => hp fun e => hf (by show (if s.fuse = 0 then (0 : Int) else s.fuse - 1) = 0; rw [if_pos e])) ?_
    repeat' (first | with_reducible exact Ent.refl _ | with_reducible refine Ent.take_eq ?_ ?_ | rfl | with_reducible refine Ent.trans (Ent.drop _ _) ?_)

theorem rBarrier_bad (p : Nat) (s : Dk) (hb : s.looks 0 ≠ 0) : Spec Try.prog 80 [.pointer (some ⟨p, 0, none⟩)] [p] [REF p s]
    fun F v Rs' => v = .int .i64 (s.looks 0) ∧ Rs' = (p, REF p s) :: F := by
  refine spec_of Try.func80 rfl Try.ntmps80 rfl ?_
  intro w0 F
  refine REF.sc (p := p) (s := s) fun x hx => ?_
  have hd : s.down = true := by
    cases hd : s.down with
    | true => rfl
    | false => exact absurd (Dk.looks_ok hd (Int.le_refl _) (by have := hx.wf.n1; omega)) hb
  have hl : s.looks 0 = 6 := by unfold Dk.looks; rw [hd]; rfl
  unfold REFl
  repeat' (first | with_reducible refine sw_op ?_ | with_reducible refine sw_op_ ?_ | with_reducible refine sw_nil ?_ | with_reducible refine sq_then ?_ | with_reducible refine sc_seq ?_ | with_reducible refine sc_region ?_ | with_reducible refine sw_guard_skip ?_ | with_reducible refine sw_guard_skip_ ?_ | with_reducible refine sw_guard_run ?_ | with_reducible refine sc_cond_true ?_ | with_reducible refine sc_cond_false ?_ | with_reducible refine sc_ret ?_ | with_reducible refine sq_then_ret ?_ | with_reducible refine sc_skip ?_ | with_reducible refine sc_block ?_ | with_reducible refine sq_block ?_ | with_reducible refine sq_block_ret ?_ | with_reducible refine sc_exit ?_ | with_reducible refine sq_then_exit ?_ | with_reducible refine sq_block_exit ?_ | with_reducible refine sq_block_past ?_ | with_reducible refine sq_round_ret ?_ | with_reducible refine sq_round_exit ?_ | (with_reducible refine sc_cond (fun h => ?_) (fun h => ?_)) <;> (try (exfalso; first | contradiction | omega | exact h Iff.rfl)) | fail)
  refine sq_ret1 Try.results80 ?_
  refine ⟨_, ⟨by rw [hl], rfl⟩, Ent.trans (B := REFl p s x F) ?_ (REF.close hx)⟩
  unfold REFl
  repeat' (first | with_reducible exact Ent.refl _ | with_reducible refine Ent.take_eq ?_ ?_ | rfl | with_reducible refine Ent.trans (Ent.drop _ _) ?_)

set_option maxHeartbeats 1000000 in
theorem rBarrier_ok (p : Nat) (s : Dk) (hb : s.looks 0 = 0) : Spec Try.prog 80 [.pointer (some ⟨p, 0, none⟩)] [p] [REF p s]
    fun F v Rs' => (s.fuse ≠ 1 ∧ v = .int .i64 0 ∧ Rs' = (p, REF p s.barred) :: F) ∨
      (s.fuse = 1 ∧ v = .int .i64 6 ∧ ∃ ks, KeysD s.dirty ks ∧ Rs' = (p, REF p (s.met.gone ks s.keep)) :: F) := by
  have hd := (Dk.looks_zero hb).1
  refine spec_of Try.func80 rfl Try.ntmps80 rfl ?_
  intro w0 F
  refine REF.sc (p := p) (s := s) fun x hX => ?_
  haveI : One x.kv := ⟨hX.one⟩
  have hn2 := hX.wf.n2
  unfold REFl
  rw [hd]
  repeat' (first | with_reducible refine sw_op ?_ | with_reducible refine sw_op_ ?_ | with_reducible refine sw_nil ?_ | with_reducible refine sq_then ?_ | with_reducible refine sc_seq ?_ | with_reducible refine sc_region ?_ | with_reducible refine sw_guard_skip ?_ | with_reducible refine sw_guard_skip_ ?_ | with_reducible refine sw_guard_run ?_ | with_reducible refine sc_cond_true ?_ | with_reducible refine sc_cond_false ?_ | with_reducible refine sc_ret ?_ | with_reducible refine sq_then_ret ?_ | with_reducible refine sc_skip ?_ | with_reducible refine sc_block ?_ | with_reducible refine sq_block ?_ | with_reducible refine sq_block_ret ?_ | with_reducible refine sc_exit ?_ | with_reducible refine sq_then_exit ?_ | with_reducible refine sq_block_exit ?_ | with_reducible refine sq_block_past ?_ | with_reducible refine sq_round_ret ?_ | with_reducible refine sq_round_exit ?_ | (with_reducible refine sc_cond (fun h => ?_) (fun h => ?_)) <;> (try (exfalso; first | contradiction | omega | exact h Iff.rfl)) | fail)
  refine sw_call (rMeets_raw p x.bN x.bU x.bD s.sure.length x.cN x.cU x.cD s.fuse x.kv s.calls false hX.wf.f1 hX.wf.f2 hX.one) ?_
  rintro _ _ ⟨rfl, rfl⟩
  have hwf2 : s.met.Wf := Dk.met_wf hX.wf
  repeat' (first | with_reducible refine sw_op ?_ | with_reducible refine sw_op_ ?_ | with_reducible refine sw_nil ?_ | with_reducible refine sq_then ?_ | with_reducible refine sc_seq ?_ | with_reducible refine sc_region ?_ | with_reducible refine sw_guard_skip ?_ | with_reducible refine sw_guard_skip_ ?_ | with_reducible refine sw_guard_run ?_ | with_reducible refine sc_cond_true ?_ | with_reducible refine sc_cond_false ?_ | with_reducible refine sc_ret ?_ | with_reducible refine sq_then_ret ?_ | with_reducible refine sc_skip ?_ | with_reducible refine sc_block ?_ | with_reducible refine sq_block ?_ | with_reducible refine sq_block_ret ?_ | with_reducible refine sc_exit ?_ | with_reducible refine sq_then_exit ?_ | with_reducible refine sq_block_exit ?_ | with_reducible refine sq_block_past ?_ | with_reducible refine sq_round_ret ?_ | with_reducible refine sq_round_exit ?_ | (with_reducible refine sc_cond (fun h => ?_) (fun h => ?_)) <;> (try (exfalso; first | contradiction | omega | exact h Iff.rfl)) | fail)
  · have hks := Dk.ks_ok hwf2
    refine sw_ent (Ent.dup_take (k := x.q) (k' := x.q + 1) (r' := BoolsI x.kv s.keep) fun _ hp => (hp (by omega)).fp) ?_
    refine sw_bools (x.q + 1) fun rr hrr => ?_
    repeat' (first | with_reducible refine sw_op ?_ | with_reducible refine sw_op_ ?_ | with_reducible refine sw_nil ?_ | with_reducible refine sq_then ?_ | with_reducible refine sc_seq ?_ | with_reducible refine sc_region ?_ | with_reducible refine sw_guard_skip ?_ | with_reducible refine sw_guard_skip_ ?_ | with_reducible refine sw_guard_run ?_ | with_reducible refine sc_cond_true ?_ | with_reducible refine sc_cond_false ?_ | with_reducible refine sc_ret ?_ | with_reducible refine sq_then_ret ?_ | with_reducible refine sc_skip ?_ | with_reducible refine sc_block ?_ | with_reducible refine sq_block ?_ | with_reducible refine sq_block_ret ?_ | with_reducible refine sc_exit ?_ | with_reducible refine sq_then_exit ?_ | with_reducible refine sq_block_exit ?_ | with_reducible refine sq_block_past ?_ | with_reducible refine sq_round_ret ?_ | with_reducible refine sq_round_exit ?_ | fail)
    refine sw_ent (Rs'' := (p, pts p (rrow x.bN x.bU x.bD s.met.sure.length x.cN x.cU x.cD s.met.fuse x.kv s.met.calls false)) :: (x.bN, pts x.bN (strs s.met.fN s.met.sure.length x.rN)) :: (x.bU, pts x.bU (strs s.met.fU s.met.sure.length x.rU)) :: (x.bD, pts x.bD (bools s.met.fD s.met.sure.length x.rD)) :: (x.q + 1, rr) :: (x.q, RKeep x.kv s) :: F) ?_ ?_
    · repeat' (first | with_reducible exact Ent.refl _ | with_reducible refine Ent.take_eq ?_ ?_ | rfl | with_reducible refine Ent.trans (Ent.drop _ _) ?_)
    refine sw_call (rLose_raw p (x.q + 1) s.met x rr x.kv s.keep _ _ _ s.met.ks hwf2 hX.one hrr hX.wf.k1 hks) ?_
    rintro _ _ ⟨rfl, rfl⟩
    repeat' (first | with_reducible refine sw_op ?_ | with_reducible refine sw_op_ ?_ | with_reducible refine sw_nil ?_ | with_reducible refine sq_then ?_ | with_reducible refine sc_seq ?_ | with_reducible refine sc_region ?_ | with_reducible refine sw_guard_skip ?_ | with_reducible refine sw_guard_skip_ ?_ | with_reducible refine sw_guard_run ?_ | with_reducible refine sc_cond_true ?_ | with_reducible refine sc_cond_false ?_ | with_reducible refine sc_ret ?_ | with_reducible refine sq_then_ret ?_ | with_reducible refine sc_skip ?_ | with_reducible refine sc_block ?_ | with_reducible refine sq_block ?_ | with_reducible refine sq_block_ret ?_ | with_reducible refine sc_exit ?_ | with_reducible refine sq_then_exit ?_ | with_reducible refine sq_block_exit ?_ | with_reducible refine sq_block_past ?_ | with_reducible refine sq_round_ret ?_ | with_reducible refine sq_round_exit ?_ | fail)
    refine sq_ret1 Try.results80 ?_
    refine ⟨_, .inr ⟨by assumption, rfl, s.met.ks, hks, rfl⟩, Ent.trans ?_ (REF.gone_close (fz := 0) (cl := s.met.calls) (q := RKeep x.kv s) ⟨hwf2, hX.one⟩ hks rfl)⟩
    repeat' (first | with_reducible exact Ent.refl _ | with_reducible refine Ent.take_eq ?_ ?_ | rfl | with_reducible refine Ent.trans (Ent.drop _ _) ?_)
  · refine sc_loop (α := { i : Nat // i ≤ s.sure.length }) (fun i => [(0, .pointer (some ⟨p, 0, none⟩)), (3, .int .i64 i.1)])
      (fun i => (p, pts p (rrow x.bN x.bU x.bD s.sure.length x.cN x.cU x.cD (if s.fuse = 0 then 0 else s.fuse - 1) x.kv (IntKind.i64.wrap (s.calls + 1)) false)) :: (x.bN, pts x.bN (strs s.fN s.sure.length x.rN)) :: (x.bU, pts x.bU (strs (fun j => if j < i.1 then s.fN j else s.fU j) s.sure.length x.rU)) :: (x.bD, pts x.bD (bools (fun j => if j < i.1 then Value.bool false else s.fD j) s.sure.length x.rD)) :: (x.q, RKeep x.kv s) :: F)
      (fun i => s.sure.length - i.1) ⟨0, Nat.zero_le _⟩ ?_ ?_ ?_
    · repeat' (first | exact says_nil | refine says_cons rfl ?_ | refine says_cons (by simp) ?_)
    · dsimp only
      repeat' (first | with_reducible exact Ent.refl _ | with_reducible refine Ent.take_eq ?_ ?_ | rfl | with_reducible refine Ent.trans (Ent.drop _ _) ?_)
    rintro ⟨i, hi⟩ e
    simp only [List.cons_append, List.nil_append]
    haveI : One (s.fN i) := ⟨rfl⟩
    repeat' (first | with_reducible refine sw_op ?_ | with_reducible refine sw_op_ ?_ | with_reducible refine sw_nil ?_ | with_reducible refine sq_then ?_ | with_reducible refine sc_seq ?_ | with_reducible refine sc_region ?_ | with_reducible refine sw_guard_skip ?_ | with_reducible refine sw_guard_skip_ ?_ | with_reducible refine sw_guard_run ?_ | with_reducible refine sc_cond_true ?_ | with_reducible refine sc_cond_false ?_ | with_reducible refine sc_ret ?_ | with_reducible refine sq_then_ret ?_ | with_reducible refine sc_skip ?_ | with_reducible refine sc_block ?_ | with_reducible refine sq_block ?_ | with_reducible refine sq_block_ret ?_ | with_reducible refine sc_exit ?_ | with_reducible refine sq_then_exit ?_ | with_reducible refine sq_block_exit ?_ | with_reducible refine sq_block_past ?_ | with_reducible refine sq_round_ret ?_ | with_reducible refine sq_round_exit ?_ | (with_reducible refine sc_cond (fun h => ?_) (fun h => ?_)) <;> (try (exfalso; first | contradiction | omega | exact h Iff.rfl)) | fail)
    · have hlt : i < s.sure.length := by omega
      refine sc_drawG (m := 14) ([(p, pts p (rrow x.bN x.bU x.bD s.sure.length x.cN x.cU x.cD (if s.fuse = 0 then 0 else s.fuse - 1) x.kv (IntKind.i64.wrap (s.calls + 1)) false)), (x.bN, pts x.bN (strs s.fN s.sure.length x.rN))]) (by kernel_rfl) rfl ?_
      all_goals (first | refine sg_take 0 (by repeat' (first | with_reducible exact calm_post | with_reducible refine Calm.then ?_ | with_reducible refine Calm.block ?_ | with_reducible refine Calm.round ?_)) rfl (by kernel_rfl) (by kernel_rfl) (by kernel_rfl) ?_)
      all_goals (first | refine sg_take 1 (by repeat' (first | with_reducible exact calm_post | with_reducible refine Calm.then ?_ | with_reducible refine Calm.block ?_ | with_reducible refine Calm.round ?_)) rfl (by kernel_rfl) (by kernel_rfl) (by kernel_rfl) ?_)
      all_goals (first | refine sg_take 2 (by repeat' (first | with_reducible exact calm_post | with_reducible refine Calm.then ?_ | with_reducible refine Calm.block ?_ | with_reducible refine Calm.round ?_)) rfl (by kernel_rfl) (by kernel_rfl) (by kernel_rfl) ?_)
      all_goals (first | refine sg_take 3 (by repeat' (first | with_reducible exact calm_post | with_reducible refine Calm.then ?_ | with_reducible refine Calm.block ?_ | with_reducible refine Calm.round ?_)) rfl (by kernel_rfl) (by kernel_rfl) (by kernel_rfl) ?_)
      all_goals (first | refine sg_take 4 (by repeat' (first | with_reducible exact calm_post | with_reducible refine Calm.then ?_ | with_reducible refine Calm.block ?_ | with_reducible refine Calm.round ?_)) rfl (by kernel_rfl) (by kernel_rfl) (by kernel_rfl) ?_)
      all_goals (first | refine sg_take 5 (by repeat' (first | with_reducible exact calm_post | with_reducible refine Calm.then ?_ | with_reducible refine Calm.block ?_ | with_reducible refine Calm.round ?_)) rfl (by kernel_rfl) (by kernel_rfl) (by kernel_rfl) ?_)
      all_goals (first | refine sg_take 6 (by repeat' (first | with_reducible exact calm_post | with_reducible refine Calm.then ?_ | with_reducible refine Calm.block ?_ | with_reducible refine Calm.round ?_)) rfl (by kernel_rfl) (by kernel_rfl) (by kernel_rfl) ?_)
      all_goals (first | refine sg_take 7 (by repeat' (first | with_reducible exact calm_post | with_reducible refine Calm.then ?_ | with_reducible refine Calm.block ?_ | with_reducible refine Calm.round ?_)) rfl (by kernel_rfl) (by kernel_rfl) (by kernel_rfl) ?_)
      all_goals (first | refine sg_take 8 (by repeat' (first | with_reducible exact calm_post | with_reducible refine Calm.then ?_ | with_reducible refine Calm.block ?_ | with_reducible refine Calm.round ?_)) rfl (by kernel_rfl) (by kernel_rfl) (by kernel_rfl) ?_)
      all_goals (first | refine sg_take 9 (by repeat' (first | with_reducible exact calm_post | with_reducible refine Calm.then ?_ | with_reducible refine Calm.block ?_ | with_reducible refine Calm.round ?_)) rfl (by kernel_rfl) (by kernel_rfl) (by kernel_rfl) ?_)
      all_goals (first | refine sg_take 10 (by repeat' (first | with_reducible exact calm_post | with_reducible refine Calm.then ?_ | with_reducible refine Calm.block ?_ | with_reducible refine Calm.round ?_)) rfl (by kernel_rfl) (by kernel_rfl) (by kernel_rfl) (h := runop_idx i (by omega)) ?_ | refine sg_take 10 (by repeat' (first | with_reducible exact calm_post | with_reducible refine Calm.then ?_ | with_reducible refine Calm.block ?_ | with_reducible refine Calm.round ?_)) rfl (by kernel_rfl) (by kernel_rfl) (by kernel_rfl) ?_)
      all_goals (first | refine sg_take 11 (by repeat' (first | with_reducible exact calm_post | with_reducible refine Calm.then ?_ | with_reducible refine Calm.block ?_ | with_reducible refine Calm.round ?_)) rfl (by kernel_rfl) (by kernel_rfl) (by kernel_rfl) (h := runop_loadAt (s.fN i) (cellsOf_get hlt)) ?_ | refine sg_take 11 (by repeat' (first | with_reducible exact calm_post | with_reducible refine Calm.then ?_ | with_reducible refine Calm.block ?_ | with_reducible refine Calm.round ?_)) rfl (by kernel_rfl) (by kernel_rfl) (by kernel_rfl) ?_)
      all_goals (first | refine sg_take 12 (by repeat' (first | with_reducible exact calm_post | with_reducible refine Calm.then ?_ | with_reducible refine Calm.block ?_ | with_reducible refine Calm.round ?_)) rfl (by kernel_rfl) (by kernel_rfl) (by kernel_rfl) (h := runop_idx i (by omega)) ?_ | refine sg_take 12 (by repeat' (first | with_reducible exact calm_post | with_reducible refine Calm.then ?_ | with_reducible refine Calm.block ?_ | with_reducible refine Calm.round ?_)) rfl (by kernel_rfl) (by kernel_rfl) (by kernel_rfl) ?_)
      all_goals (refine sg_one 13 rfl (by kernel_rfl) rfl ?_)
      all_goals (repeat' (first | with_reducible refine sw_op ?_ | with_reducible refine sw_op_ ?_ | with_reducible refine sw_storeAt (by rw [List.length_append, cellsOf_len]; omega) ?_ | with_reducible refine sg_back ?_ | with_reducible refine sw_nil ?_ | with_reducible refine sq_then ?_ | with_reducible refine sc_seq ?_ | with_reducible refine sc_region ?_ | with_reducible refine sw_guard_skip ?_ | with_reducible refine sw_guard_skip_ ?_ | with_reducible refine sw_guard_run ?_ | with_reducible refine sc_cond_true ?_ | with_reducible refine sc_cond_false ?_ | with_reducible refine sc_ret ?_ | with_reducible refine sq_then_ret ?_ | with_reducible refine sc_skip ?_ | with_reducible refine sc_block ?_ | with_reducible refine sq_block ?_ | with_reducible refine sq_block_ret ?_ | with_reducible refine sc_exit ?_ | with_reducible refine sq_then_exit ?_ | with_reducible refine sq_block_exit ?_ | with_reducible refine sq_block_past ?_ | with_reducible refine sq_round_ret ?_ | with_reducible refine sq_round_exit ?_ | fail))
      all_goals (refine sg_done (by kernel_rfl) rfl ?_)
      rw [step_set hlt]
      repeat' (first | with_reducible refine sw_op ?_ | with_reducible refine sw_op_ ?_ | with_reducible refine sw_nil ?_ | with_reducible refine sq_then ?_ | with_reducible refine sc_seq ?_ | with_reducible refine sc_region ?_ | with_reducible refine sw_guard_skip ?_ | with_reducible refine sw_guard_skip_ ?_ | with_reducible refine sw_guard_run ?_ | with_reducible refine sc_cond_true ?_ | with_reducible refine sc_cond_false ?_ | with_reducible refine sc_ret ?_ | with_reducible refine sq_then_ret ?_ | with_reducible refine sc_skip ?_ | with_reducible refine sc_block ?_ | with_reducible refine sq_block ?_ | with_reducible refine sq_block_ret ?_ | with_reducible refine sc_exit ?_ | with_reducible refine sq_then_exit ?_ | with_reducible refine sq_block_exit ?_ | with_reducible refine sq_block_past ?_ | with_reducible refine sq_round_ret ?_ | with_reducible refine sq_round_exit ?_ | fail)
      refine sw_idx i (by omega) ?_
      refine sw_storeAt (by rw [List.length_append, cellsOf_len]; omega) ?_
      rw [step_set (A := fun _ => Value.bool false) hlt]
      repeat' (first | with_reducible refine sw_in (by omega) ?_ | with_reducible refine sw_op ?_ | with_reducible refine sw_op_ ?_ | with_reducible refine sw_nil ?_ | with_reducible refine sq_then ?_ | with_reducible refine sc_seq ?_ | with_reducible refine sc_region ?_ | with_reducible refine sw_guard_skip ?_ | with_reducible refine sw_guard_skip_ ?_ | with_reducible refine sw_guard_run ?_ | with_reducible refine sc_cond_true ?_ | with_reducible refine sc_cond_false ?_ | with_reducible refine sc_ret ?_ | with_reducible refine sq_then_ret ?_ | with_reducible refine sc_skip ?_ | with_reducible refine sc_block ?_ | with_reducible refine sq_block ?_ | with_reducible refine sq_block_ret ?_ | with_reducible refine sc_exit ?_ | with_reducible refine sq_then_exit ?_ | with_reducible refine sq_block_exit ?_ | with_reducible refine sq_block_past ?_ | with_reducible refine sq_round_ret ?_ | with_reducible refine sq_round_exit ?_ | fail)
      refine sq_round ⟨i + 1, hlt⟩ ?_ ?_ ?_
      · show s.sure.length - (i + 1) < s.sure.length - i
        omega
      · repeat' (first | exact says_nil | refine says_cons rfl ?_ | refine says_cons (by simp) ?_)
      · repeat' (first | with_reducible exact Ent.refl _ | with_reducible refine Ent.take_eq ?_ ?_ | rfl | with_reducible refine Ent.trans (Ent.drop _ _) ?_)
    · have hin : i = s.sure.length := by omega
      subst hin
      refine sq_ret1 Try.results80 ?_
      refine ⟨_, .inl ⟨by assumption, rfl, rfl⟩, Ent.trans (B := REFl p s.barred x F) ?_ (REF.close ⟨Dk.barred_wf hwf2, hX.one⟩)⟩
      unfold REFl
      rw [Dk.barred_len]
      have eN : strs s.fN s.sure.length x.rN = strs s.barred.fN s.sure.length x.rN := row_congr fun j hj => by unfold Dk.fN; rw [barred_now hj]
      have eU : strs (fun j => if j < s.sure.length then s.fN j else s.fU j) s.sure.length x.rU = strs s.barred.fU s.sure.length x.rU := row_congr fun j hj => by
        rw [if_pos hj]
        unfold Dk.fN Dk.fU
        rw [barred_sure hj]; rfl
      have eD : bools (fun j => if j < s.sure.length then Value.bool false else s.fD j) s.sure.length x.rD = bools s.barred.fD s.sure.length x.rD := row_congr fun j hj => by rw [if_pos hj]; rfl
      rw [eN, eU, eD]
      refine Ent.take_eq (by rw [← hd]; rfl) (Ent.take_eq rfl (Ent.take_eq rfl (Ent.take_eq rfl ?_)))
      refine Ent.take (fun h hp hf => hp fun e => hf (by show (if s.fuse = 0 then (0 : Int) else s.fuse - 1) = 0; rw [if_pos e])) ?_
      repeat' (first | with_reducible exact Ent.refl _ | with_reducible refine Ent.take_eq ?_ ?_ | rfl | with_reducible refine Ent.trans (Ent.drop _ _) ?_)
end Go.Gsl
