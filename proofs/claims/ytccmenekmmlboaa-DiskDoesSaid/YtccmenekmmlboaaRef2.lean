/- The document's disk: writes, barriers, crashes. -/
import Derived.Test.YtccmenekmmlboaaRef1
namespace Go.Gsl
set_option linter.unusedVariables false
open Go.Proofs

/-- the dirty ones, in order -/
def Dk.ks (s : Dk) : List Int := ((List.range s.sure.length).filter (fun i : Nat => (s.dirty (i : Int)).isSome)).map (fun i : Nat => (i : Int))
theorem Dk.ks_ok {s : Dk} (hw : s.Wf) : KeysD s.dirty s.ks where
  nodup := by
    unfold Dk.ks
    refine List.Pairwise.map _ (fun a b h => ?_) (List.Pairwise.filter _ (List.nodup_range (n := s.sure.length)))
    intro e; exact h (by omega)
  mem := fun i => by
    unfold Dk.ks
    rw [List.mem_map]
    constructor
    · rintro ⟨a, ha, rfl⟩
      exact (List.mem_filter.1 ha).2
    · intro hi
      obtain ⟨xs, hx⟩ := Option.isSome_iff_exists.1 hi
      have hd := hw.dat i xs hx
      have e : ((i.toNat : Nat) : Int) = i := by omega
      exact ⟨i.toNat, List.mem_filter.2 ⟨List.mem_range.2 (by omega), by rw [e]; exact hi⟩, e⟩
  le := by
    unfold Dk.ks
    have h1 : ((List.range s.sure.length).filter (fun i : Nat => (s.dirty (i : Int)).isSome)).Pairwise (· < ·) := List.Pairwise.filter _ List.pairwise_lt_range
    exact List.Pairwise.map _ (fun a b h => by show (a : Int) ≤ (b : Int); omega) h1

theorem RKeep.gone {kv : Value} {s : Dk} {ks : List Int} {bs : List Bool} {h : Hp} : RKeep kv (s.gone ks bs) h := fun hf => absurd rfl hf
/-- closing it behind a crash -/
theorem REF.gone_close {p : Nat} {s : Dk} {x : RX} {ks : List Int} {bs : List Bool} {fz cl : Int} {q : HProp} {F : List Res} (hx : x.Ok s) (hk : KeysD s.dirty ks) (hc : cl = s.calls) :
    Ent ((p, pts p (rrow x.bN x.bU x.bD s.sure.length x.cN x.cU x.cD 0 x.kv cl true)) :: (x.bN, pts x.bN (strs (s.gone ks bs).fN s.sure.length x.rN)) :: (x.bU, pts x.bU (strs (s.gone ks bs).fU s.sure.length x.rU)) :: (x.bD, pts x.bD (bools (s.gone ks bs).fD s.sure.length x.rD)) :: (x.q, q) :: F) ((p, REF p (s.gone ks bs)) :: F) := by
  refine Ent.trans (Ent.cons _ (Ent.cons _ (Ent.cons _ (Ent.cons _ (Ent.head (k := x.q) (F := F) fun h _ => (RKeep.gone : RKeep x.kv (s.gone ks bs) h)))))) ?_
  refine Ent.trans (B := REFl p (s.gone ks bs) x F) ?_ (REF.close ⟨Dk.gone_wf hx.wf hk, hx.one⟩)
  unfold REFl
  rw [Dk.gone_len, hc]
  exact Ent.refl _

theorem rCrash_bad (p k : Nat) (s : Dk) (r : HProp) (kv : Value) (hb : s.looks 0 ≠ 0) : Spec Try.prog 82 [.pointer (some ⟨p, 0, none⟩), kv] [p, k] [REF p s, r]
    fun F v Rs' => v = .int .i64 (s.looks 0) ∧ Rs' = (p, REF p s) :: (k, r) :: F := by
  refine spec_of Try.func82 rfl Try.ntmps82 rfl ?_
  intro w0 F
  refine REF.sc (p := p) (s := s) fun x hx => ?_
  have hd : s.down = true := by
    cases hd : s.down with
    | true => rfl
    | false => exact absurd (Dk.looks_ok hd (Int.le_refl _) (by have := hx.wf.n1; omega)) hb
  have hl : s.looks 0 = 6 := by unfold Dk.looks; rw [hd]; rfl
  unfold REFl
  repeat' (first | with_reducible refine sw_op ?_ | with_reducible refine sw_op_ ?_ | with_reducible refine sw_nil ?_ | with_reducible refine sq_then ?_ | with_reducible refine sc_seq ?_ | with_reducible refine sc_region ?_ | with_reducible refine sw_guard_skip ?_ | with_reducible refine sw_guard_skip_ ?_ | with_reducible refine sw_guard_run ?_ | with_reducible refine sc_cond_true ?_ | with_reducible refine sc_cond_false ?_ | with_reducible refine sc_ret ?_ | with_reducible refine sq_then_ret ?_ | with_reducible refine sc_skip ?_ | with_reducible refine sc_block ?_ | with_reducible refine sq_block ?_ | with_reducible refine sq_block_ret ?_ | with_reducible refine sc_exit ?_ | with_reducible refine sq_then_exit ?_ | with_reducible refine sq_block_exit ?_ | with_reducible refine sq_block_past ?_ | with_reducible refine sq_round_ret ?_ | with_reducible refine sq_round_exit ?_ | (with_reducible refine sc_cond (fun h => ?_) (fun h => ?_)) <;> (try (exfalso; first | contradiction | omega | exact h Iff.rfl)) | fail)
  refine sq_ret1 Try.results82 ?_
  refine ⟨_, ⟨by rw [hl], rfl⟩, Ent.trans (B := REFl p s x ((k, r) :: F)) ?_ (REF.close hx)⟩
  unfold REFl
  repeat' (first | with_reducible exact Ent.refl _ | with_reducible refine Ent.take_eq ?_ ?_ | rfl | with_reducible refine Ent.trans (Ent.drop _ _) ?_)

theorem rCrash_ok (p k : Nat) (s : Dk) (r : HProp) (kv : Value) (bs : List Bool) (hr : RdBools r kv bs) (hl : bs.length ≤ 9223372036854775807) (hb : s.looks 0 = 0) : Spec Try.prog 82 [.pointer (some ⟨p, 0, none⟩), kv] [p, k] [REF p s, r]
    fun F v Rs' => ∃ ks, KeysD s.dirty ks ∧ v = .int .i64 0 ∧ Rs' = (p, REF p (s.gone ks bs)) :: (k, r) :: F := by
  have hd := (Dk.looks_zero hb).1
  refine spec_of Try.func82 rfl Try.ntmps82 rfl ?_
  intro w0 F
  refine REF.sc (p := p) (s := s) fun x hx => ?_
  have hks := Dk.ks_ok hx.wf
  unfold REFl
  rw [hd]
  repeat' (first | with_reducible refine sw_op ?_ | with_reducible refine sw_op_ ?_ | with_reducible refine sw_nil ?_ | with_reducible refine sq_then ?_ | with_reducible refine sc_seq ?_ | with_reducible refine sc_region ?_ | with_reducible refine sw_guard_skip ?_ | with_reducible refine sw_guard_skip_ ?_ | with_reducible refine sw_guard_run ?_ | with_reducible refine sc_cond_true ?_ | with_reducible refine sc_cond_false ?_ | with_reducible refine sc_ret ?_ | with_reducible refine sq_then_ret ?_ | with_reducible refine sc_skip ?_ | with_reducible refine sc_block ?_ | with_reducible refine sq_block ?_ | with_reducible refine sq_block_ret ?_ | with_reducible refine sc_exit ?_ | with_reducible refine sq_then_exit ?_ | with_reducible refine sq_block_exit ?_ | with_reducible refine sq_block_past ?_ | with_reducible refine sq_round_ret ?_ | with_reducible refine sq_round_exit ?_ | (with_reducible refine sc_cond (fun h => ?_) (fun h => ?_)) <;> (try (exfalso; first | contradiction | omega | exact h Iff.rfl)) | fail)
  refine sw_call (rLose_raw p k s x r kv bs s.fuse s.calls false s.ks hx.wf hx.one hr hl hks) ?_
  rintro _ _ ⟨rfl, rfl⟩
  repeat' (first | with_reducible refine sw_op ?_ | with_reducible refine sw_op_ ?_ | with_reducible refine sw_nil ?_ | with_reducible refine sq_then ?_ | with_reducible refine sc_seq ?_ | with_reducible refine sc_region ?_ | with_reducible refine sw_guard_skip ?_ | with_reducible refine sw_guard_skip_ ?_ | with_reducible refine sw_guard_run ?_ | with_reducible refine sc_cond_true ?_ | with_reducible refine sc_cond_false ?_ | with_reducible refine sc_ret ?_ | with_reducible refine sq_then_ret ?_ | with_reducible refine sc_skip ?_ | with_reducible refine sc_block ?_ | with_reducible refine sq_block ?_ | with_reducible refine sq_block_ret ?_ | with_reducible refine sc_exit ?_ | with_reducible refine sq_then_exit ?_ | with_reducible refine sq_block_exit ?_ | with_reducible refine sq_block_past ?_ | with_reducible refine sq_round_ret ?_ | with_reducible refine sq_round_exit ?_ | fail)
  refine sq_ret1 Try.results82 ?_
  refine ⟨_, ⟨s.ks, hks, rfl, rfl⟩, Ent.trans ?_ (REF.gone_close (fz := 0) (cl := s.calls) (q := RKeep x.kv s) hx hks rfl)⟩
  repeat' (first | with_reducible exact Ent.refl _ | with_reducible refine Ent.take_eq ?_ ?_ | rfl | with_reducible refine Ent.trans (Ent.drop _ _) ?_)
end Go.Gsl
