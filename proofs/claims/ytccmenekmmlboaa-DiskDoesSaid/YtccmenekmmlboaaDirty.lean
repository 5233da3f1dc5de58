/- What is dirty, told. -/
import Derived.Test.YtccmenekmmlboaaClone
namespace Go.Gsl
set_option linter.unusedVariables false
open Go.Proofs

def Dk.ksTo (s : Dk) (i : Nat) : List Int := ((List.range i).filter (fun j : Nat => (s.dirty (j : Int)).isSome)).map (fun j : Nat => (j : Int))
theorem Dk.ksTo_hit {s : Dk} {i : Nat} (h : (s.dirty (i : Int)).isSome = true) : s.ksTo (i + 1) = s.ksTo i ++ [(i : Int)] := by
  unfold Dk.ksTo
  rw [List.range_succ, List.filter_append, List.map_append]
  simp [h]
theorem Dk.ksTo_miss {s : Dk} {i : Nat} (h : ¬ (s.dirty (i : Int)).isSome = true) : s.ksTo (i + 1) = s.ksTo i := by
  unfold Dk.ksTo
  rw [List.range_succ, List.filter_append, List.map_append]
  simp [h]
theorem Dk.ksTo_len (s : Dk) (i : Nat) : (s.ksTo i).length ≤ i := by
  unfold Dk.ksTo
  rw [List.length_map]
  have := List.length_filter_le (fun j : Nat => (s.dirty (j : Int)).isSome) (List.range i)
  rw [List.length_range] at this
  exact this

def lV (ks : List Int) : Option (Nat × List Value) → Value
  | none => .slice none 0 0
  | some (b, r) => .slice (some ⟨b, 0, none⟩) ks.length (ks.length + r.length)
def lR (ks : List Int) (F : List Res) : Option (Nat × List Value) → List Res
  | none => F
  | some (b, r) => (b, pts b (.cells (ks.map (Value.int .i64) ++ r).toArray 3 (0, 0))) :: F

/-- a row of ints that can be read -/
structure RdInts (ks : List Int) (v : Value) (rv : HProp) (a : Option Addr) (c : Nat) : Prop where
  val : v = .slice a ks.length c
  at' : 0 < ks.length → ∃ b o, a = some ⟨b, o, none⟩
  rd : Reads rv a (ks.map (Value.int .i64))

set_option maxHeartbeats 1000000 in
theorem rDirty_ok (p : Nat) (s : Dk) : Spec Try.prog 84 [.pointer (some ⟨p, 0, none⟩)] [p] [REF p s] fun F v Rs' => ∃ ks a c kv rv, (KeysD s.dirty ks ∧ ks.length ≤ 4398046511104) ∧ RdInts ks v rv a c ∧ Rs' = (kv, rv) :: (p, REF p s) :: F := by
  refine spec_of Try.func84 rfl Try.ntmps84 rfl ?_
  intro w0 F
  refine REF.sc (p := p) (s := s) fun x hx => ?_
  have hn2 := hx.wf.n2
  repeat' (first | with_reducible refine sw_op ?_ | with_reducible refine sw_op_ ?_ | with_reducible refine sw_nil ?_ | with_reducible refine sq_then ?_ | with_reducible refine sc_seq ?_ | with_reducible refine sc_region ?_ | with_reducible refine sw_guard_skip ?_ | with_reducible refine sw_guard_skip_ ?_ | with_reducible refine sw_guard_run ?_ | with_reducible refine sc_cond_true ?_ | with_reducible refine sc_cond_false ?_ | with_reducible refine sc_ret ?_ | with_reducible refine sq_then_ret ?_ | with_reducible refine sc_skip ?_ | with_reducible refine sc_block ?_ | with_reducible refine sq_block ?_ | with_reducible refine sq_block_ret ?_ | with_reducible refine sc_exit ?_ | with_reducible refine sq_then_exit ?_ | with_reducible refine sq_block_exit ?_ | with_reducible refine sq_block_past ?_ | with_reducible refine sq_round_ret ?_ | with_reducible refine sq_round_exit ?_ | fail)
  refine sc_loop (α := { y : Nat × Option (Nat × List Value) // y.1 ≤ s.sure.length ∧ (y.2 = none → s.ksTo y.1 = []) }) (fun y => [(0, .pointer (some ⟨p, 0, none⟩)), (3, lV (s.ksTo y.1.1) y.1.2), (4, .int .i64 y.1.1)])
    (fun y => lR (s.ksTo y.1.1) (REFl p s x F) y.1.2) (fun y => s.sure.length - y.1.1) ⟨(0, none), Nat.zero_le _, fun _ => rfl⟩ ?_ ?_ ?_
  · repeat' (first | exact says_nil | refine says_cons rfl ?_ | refine says_cons (by simp) ?_)
  · exact Ent.refl _
  rintro ⟨⟨i, y⟩, hi, hy⟩ e
  simp only at hi hy
  simp only [List.cons_append, List.nil_append]
  have hkl := s.ksTo_len i
  cases y with
  | none =>
    have hy := hy rfl
    simp only [lV, lR, REFl]
    repeat' (first | with_reducible refine sw_op ?_ | with_reducible refine sw_op_ ?_ | with_reducible refine sw_nil ?_ | with_reducible refine sq_then ?_ | with_reducible refine sc_seq ?_ | with_reducible refine sc_region ?_ | with_reducible refine sw_guard_skip ?_ | with_reducible refine sw_guard_skip_ ?_ | with_reducible refine sw_guard_run ?_ | with_reducible refine sc_cond_true ?_ | with_reducible refine sc_cond_false ?_ | with_reducible refine sc_ret ?_ | with_reducible refine sq_then_ret ?_ | with_reducible refine sc_skip ?_ | with_reducible refine sc_block ?_ | with_reducible refine sq_block ?_ | with_reducible refine sq_block_ret ?_ | with_reducible refine sc_exit ?_ | with_reducible refine sq_then_exit ?_ | with_reducible refine sq_block_exit ?_ | with_reducible refine sq_block_past ?_ | with_reducible refine sq_round_ret ?_ | with_reducible refine sq_round_exit ?_ | (with_reducible refine sc_cond (fun h => ?_) (fun h => ?_)) <;> (try (exfalso; first | contradiction | omega | exact h Iff.rfl)) | fail)
    · have hlt : i < s.sure.length := by omega
      refine sw_idx i (by omega) ?_
      refine sw_loadAt (.bool (s.dirty i).isSome) (cellsOf_get hlt) ?_
      repeat' (first | with_reducible refine sw_in (by omega) ?_ | with_reducible refine sw_op ?_ | with_reducible refine sw_op_ ?_ | with_reducible refine sw_nil ?_ | with_reducible refine sq_then ?_ | with_reducible refine sc_seq ?_ | with_reducible refine sc_region ?_ | with_reducible refine sw_guard_skip ?_ | with_reducible refine sw_guard_skip_ ?_ | with_reducible refine sw_guard_run ?_ | with_reducible refine sc_cond_true ?_ | with_reducible refine sc_cond_false ?_ | with_reducible refine sc_ret ?_ | with_reducible refine sq_then_ret ?_ | with_reducible refine sc_skip ?_ | with_reducible refine sc_block ?_ | with_reducible refine sq_block ?_ | with_reducible refine sq_block_ret ?_ | with_reducible refine sc_exit ?_ | with_reducible refine sq_then_exit ?_ | with_reducible refine sq_block_exit ?_ | with_reducible refine sq_block_past ?_ | with_reducible refine sq_round_ret ?_ | with_reducible refine sq_round_exit ?_ | (with_reducible refine sc_cond (fun h => ?_) (fun h => ?_)) <;> (try (exfalso; first | contradiction | omega | exact h Iff.rfl)) | fail)
      · refine sw_buildSlice [.int .i64 i] (by omega) rfl fun b0 => ?_
        repeat' (first | with_reducible refine sw_op ?_ | with_reducible refine sw_op_ ?_ | with_reducible refine sw_nil ?_ | with_reducible refine sq_then ?_ | with_reducible refine sc_seq ?_ | with_reducible refine sc_region ?_ | with_reducible refine sw_guard_skip ?_ | with_reducible refine sw_guard_skip_ ?_ | with_reducible refine sw_guard_run ?_ | with_reducible refine sc_cond_true ?_ | with_reducible refine sc_cond_false ?_ | with_reducible refine sc_ret ?_ | with_reducible refine sq_then_ret ?_ | with_reducible refine sc_skip ?_ | with_reducible refine sc_block ?_ | with_reducible refine sq_block ?_ | with_reducible refine sq_block_ret ?_ | with_reducible refine sc_exit ?_ | with_reducible refine sq_then_exit ?_ | with_reducible refine sq_block_exit ?_ | with_reducible refine sq_block_past ?_ | with_reducible refine sq_round_ret ?_ | with_reducible refine sq_round_exit ?_ | fail)
        refine sw_append_nil (src := [.int .i64 i]) src_pts0 ⟨by simp, rfl, by simp, by simp⟩ fun b r => ?_
        repeat' (first | with_reducible refine sw_in (by omega) ?_ | with_reducible refine sw_op ?_ | with_reducible refine sw_op_ ?_ | with_reducible refine sw_nil ?_ | with_reducible refine sq_then ?_ | with_reducible refine sc_seq ?_ | with_reducible refine sc_region ?_ | with_reducible refine sw_guard_skip ?_ | with_reducible refine sw_guard_skip_ ?_ | with_reducible refine sw_guard_run ?_ | with_reducible refine sc_cond_true ?_ | with_reducible refine sc_cond_false ?_ | with_reducible refine sc_ret ?_ | with_reducible refine sq_then_ret ?_ | with_reducible refine sc_skip ?_ | with_reducible refine sc_block ?_ | with_reducible refine sq_block ?_ | with_reducible refine sq_block_ret ?_ | with_reducible refine sc_exit ?_ | with_reducible refine sq_then_exit ?_ | with_reducible refine sq_block_exit ?_ | with_reducible refine sq_block_past ?_ | with_reducible refine sq_round_ret ?_ | with_reducible refine sq_round_exit ?_ | fail)
        have hk : s.ksTo (i + 1) = [(i : Int)] := by rw [Dk.ksTo_hit h, hy]; rfl
        refine sq_round ⟨(i + 1, some (b, r)), hlt, fun h => by cases h⟩ ?_ ?_ ?_
        · show s.sure.length - (i + 1) < s.sure.length - i
          omega
        · show says _ [(0, .pointer (some ⟨p, 0, none⟩)), (3, lV (s.ksTo (i + 1)) (some (b, r))), (4, .int .i64 ((i + 1 : Nat) : Int))]
          rw [hk]
          repeat' (first | exact says_nil | refine says_cons rfl ?_ | refine says_cons (by simp) ?_)
        · show Ent _ (lR (s.ksTo (i + 1)) (REFl p s x F) (some (b, r)))
          rw [hk]
          simp only [lR, REFl]
          repeat' (first | with_reducible exact Ent.refl _ | with_reducible refine Ent.take_eq ?_ ?_ | rfl | with_reducible refine Ent.trans (Ent.drop _ _) ?_)
      · have hk : s.ksTo (i + 1) = s.ksTo i := Dk.ksTo_miss h
        refine sq_round ⟨(i + 1, none), hlt, fun _ => by rw [hk]; exact hy⟩ ?_ ?_ ?_
        · show s.sure.length - (i + 1) < s.sure.length - i
          omega
        · repeat' (first | exact says_nil | refine says_cons rfl ?_ | refine says_cons (by simp) ?_)
        · show Ent _ (lR (s.ksTo (i + 1)) (REFl p s x F) none)
          simp only [lR, REFl]
          repeat' (first | with_reducible exact Ent.refl _ | with_reducible refine Ent.take_eq ?_ ?_ | rfl | with_reducible refine Ent.trans (Ent.drop _ _) ?_)
    · have hin : i = s.sure.length := by omega
      subst hin
      have hk := Dk.ks_ok hx.wf
      rw [show s.ks = s.ksTo s.sure.length from rfl, hy] at hk
      refine sq_ent (Ent.dup_take (k := p) (k' := p + 1) (r' := fun _ => True) fun _ _ => trivial) ?_
      refine sq_ret1 Try.results84 ?_
      refine ⟨_, ⟨[], none, 0, p + 1, _, ⟨hk, by simp⟩, ⟨rfl, fun h => by simp at h, reads_nil _ _⟩, rfl⟩, Ent.cons _ (Ent.trans (B := REFl p s x F) ?_ (REF.close hx))⟩
      unfold REFl
      repeat' (first | with_reducible exact Ent.refl _ | with_reducible refine Ent.take_eq ?_ ?_ | rfl | with_reducible refine Ent.trans (Ent.drop _ _) ?_)
  | some y =>
    obtain ⟨b, r⟩ := y
    simp only [lV, lR, REFl]
    repeat' (first | with_reducible refine sw_op ?_ | with_reducible refine sw_op_ ?_ | with_reducible refine sw_nil ?_ | with_reducible refine sq_then ?_ | with_reducible refine sc_seq ?_ | with_reducible refine sc_region ?_ | with_reducible refine sw_guard_skip ?_ | with_reducible refine sw_guard_skip_ ?_ | with_reducible refine sw_guard_run ?_ | with_reducible refine sc_cond_true ?_ | with_reducible refine sc_cond_false ?_ | with_reducible refine sc_ret ?_ | with_reducible refine sq_then_ret ?_ | with_reducible refine sc_skip ?_ | with_reducible refine sc_block ?_ | with_reducible refine sq_block ?_ | with_reducible refine sq_block_ret ?_ | with_reducible refine sc_exit ?_ | with_reducible refine sq_then_exit ?_ | with_reducible refine sq_block_exit ?_ | with_reducible refine sq_block_past ?_ | with_reducible refine sq_round_ret ?_ | with_reducible refine sq_round_exit ?_ | (with_reducible refine sc_cond (fun h => ?_) (fun h => ?_)) <;> (try (exfalso; first | contradiction | omega | exact h Iff.rfl)) | fail)
    · have hlt : i < s.sure.length := by omega
      refine sw_idx i (by omega) ?_
      refine sw_loadAt (.bool (s.dirty i).isSome) (cellsOf_get hlt) ?_
      repeat' (first | with_reducible refine sw_in (by omega) ?_ | with_reducible refine sw_op ?_ | with_reducible refine sw_op_ ?_ | with_reducible refine sw_nil ?_ | with_reducible refine sq_then ?_ | with_reducible refine sc_seq ?_ | with_reducible refine sc_region ?_ | with_reducible refine sw_guard_skip ?_ | with_reducible refine sw_guard_skip_ ?_ | with_reducible refine sw_guard_run ?_ | with_reducible refine sc_cond_true ?_ | with_reducible refine sc_cond_false ?_ | with_reducible refine sc_ret ?_ | with_reducible refine sq_then_ret ?_ | with_reducible refine sc_skip ?_ | with_reducible refine sc_block ?_ | with_reducible refine sq_block ?_ | with_reducible refine sq_block_ret ?_ | with_reducible refine sc_exit ?_ | with_reducible refine sq_then_exit ?_ | with_reducible refine sq_block_exit ?_ | with_reducible refine sq_block_past ?_ | with_reducible refine sq_round_ret ?_ | with_reducible refine sq_round_exit ?_ | (with_reducible refine sc_cond (fun h => ?_) (fun h => ?_)) <;> (try (exfalso; first | contradiction | omega | exact h Iff.rfl)) | fail)
      · refine sw_buildSlice [.int .i64 i] (by omega) rfl fun b0 => ?_
        repeat' (first | with_reducible refine sw_op ?_ | with_reducible refine sw_op_ ?_ | with_reducible refine sw_nil ?_ | with_reducible refine sq_then ?_ | with_reducible refine sc_seq ?_ | with_reducible refine sc_region ?_ | with_reducible refine sw_guard_skip ?_ | with_reducible refine sw_guard_skip_ ?_ | with_reducible refine sw_guard_run ?_ | with_reducible refine sc_cond_true ?_ | with_reducible refine sc_cond_false ?_ | with_reducible refine sc_ret ?_ | with_reducible refine sq_then_ret ?_ | with_reducible refine sc_skip ?_ | with_reducible refine sc_block ?_ | with_reducible refine sq_block ?_ | with_reducible refine sq_block_ret ?_ | with_reducible refine sc_exit ?_ | with_reducible refine sq_then_exit ?_ | with_reducible refine sq_block_exit ?_ | with_reducible refine sq_block_past ?_ | with_reducible refine sq_round_ret ?_ | with_reducible refine sq_round_exit ?_ | fail)
        refine sw_append (src := [.int .i64 i]) src_pts0 (by simp [Value.oneCell']) ⟨by omega, by rw [List.length_append, List.length_map], rfl, by simp only [List.length_singleton]; omega, by simp only [List.length_singleton]; omega⟩ fun b2 r2 => ?_
        have hk : s.ksTo (i + 1) = s.ksTo i ++ [(i : Int)] := Dk.ksTo_hit h
        have e1 : List.take (s.ksTo i).length ((s.ksTo i).map (Value.int .i64) ++ r) ++ [Value.int .i64 i] ++ r2 = (s.ksTo (i + 1)).map (Value.int .i64) ++ r2 := by
          rw [List.take_left' (by rw [List.length_map]), hk, List.map_append]; rfl
        have e2 : (s.ksTo i).length + [Value.int .i64 i].length = (s.ksTo (i + 1)).length := by rw [hk, List.length_append]; rfl
        rw [e1, e2]
        repeat' (first | with_reducible refine sw_in (by omega) ?_ | with_reducible refine sw_op ?_ | with_reducible refine sw_op_ ?_ | with_reducible refine sw_nil ?_ | with_reducible refine sq_then ?_ | with_reducible refine sc_seq ?_ | with_reducible refine sc_region ?_ | with_reducible refine sw_guard_skip ?_ | with_reducible refine sw_guard_skip_ ?_ | with_reducible refine sw_guard_run ?_ | with_reducible refine sc_cond_true ?_ | with_reducible refine sc_cond_false ?_ | with_reducible refine sc_ret ?_ | with_reducible refine sq_then_ret ?_ | with_reducible refine sc_skip ?_ | with_reducible refine sc_block ?_ | with_reducible refine sq_block ?_ | with_reducible refine sq_block_ret ?_ | with_reducible refine sc_exit ?_ | with_reducible refine sq_then_exit ?_ | with_reducible refine sq_block_exit ?_ | with_reducible refine sq_block_past ?_ | with_reducible refine sq_round_ret ?_ | with_reducible refine sq_round_exit ?_ | fail)
        refine sq_round ⟨(i + 1, some (b2, r2)), hlt, fun h => by cases h⟩ ?_ ?_ ?_
        · show s.sure.length - (i + 1) < s.sure.length - i
          omega
        · repeat' (first | exact says_nil | refine says_cons rfl ?_ | refine says_cons (by simp) ?_)
        · show Ent _ (lR (s.ksTo (i + 1)) (REFl p s x F) (some (b2, r2)))
          simp only [lR, REFl]
          repeat' (first | with_reducible exact Ent.refl _ | with_reducible refine Ent.take_eq ?_ ?_ | rfl | with_reducible refine Ent.trans (Ent.drop _ _) ?_)
      · have hk : s.ksTo (i + 1) = s.ksTo i := Dk.ksTo_miss h
        refine sq_round ⟨(i + 1, some (b, r)), hlt, fun h => by cases h⟩ ?_ ?_ ?_
        · show s.sure.length - (i + 1) < s.sure.length - i
          omega
        · show says _ [(0, .pointer (some ⟨p, 0, none⟩)), (3, lV (s.ksTo (i + 1)) (some (b, r))), (4, .int .i64 ((i + 1 : Nat) : Int))]
          rw [hk]
          repeat' (first | exact says_nil | refine says_cons rfl ?_ | refine says_cons (by simp) ?_)
        · show Ent _ (lR (s.ksTo (i + 1)) (REFl p s x F) (some (b, r)))
          rw [hk]
          simp only [lR, REFl]
          repeat' (first | with_reducible exact Ent.refl _ | with_reducible refine Ent.take_eq ?_ ?_ | rfl | with_reducible refine Ent.trans (Ent.drop _ _) ?_)
    · have hin : i = s.sure.length := by omega
      subst hin
      have hk := Dk.ks_ok hx.wf
      refine sq_ret1 Try.results84 ?_
      refine ⟨_, ⟨s.ks, some ⟨b, 0, none⟩, _, b, _, ⟨hk, by show (s.ksTo s.sure.length).length ≤ _; omega⟩, ⟨rfl, fun _ => ⟨b, 0, rfl⟩, reads_row⟩, rfl⟩, Ent.cons _ (Ent.trans (B := REFl p s x F) ?_ (REF.close hx))⟩
      unfold REFl
      repeat' (first | with_reducible exact Ent.refl _ | with_reducible refine Ent.take_eq ?_ ?_ | rfl | with_reducible refine Ent.trans (Ent.drop _ _) ?_)

theorem dDirty_ok (p : Nat) (s : Dk) : Spec Try.prog 57 [.pointer (some ⟨p, 0, none⟩)] [p] [DISK p s] fun F v Rs' => ∃ bx ks a c kv rv, (KeysD s.dirty ks ∧ ks.length ≤ 4398046511104) ∧ RdInts ks (.slice a ks.length c) rv a c ∧ v = .func (.func 104) #[] #[.pointer (some ⟨bx, 0, none⟩)] ∧
    Rs' = (bx, pts bx (ibx a ks.length c)) :: (kv, rv) :: (p, DISK p s) :: F := by
  refine spec_of Try.func57 rfl Try.ntmps57 rfl ?_
  intro w0 F
  refine DISK.sc (p := p) (s := s) fun x hx => ?_
  have hdom : ∀ i, (x.f i).isSome = true → 0 ≤ i ∧ i < 16384 := fun i hi => by
    rw [hx.dom i] at hi
    obtain ⟨xs, hxs⟩ := Option.isSome_iff_exists.1 hi
    have h1 := hx.wf.dat i xs hxs
    have h2 := hx.wf.n2
    omega
  unfold DISKl
  repeat' (first | with_reducible refine sw_op ?_ | with_reducible refine sw_op_ ?_ | ((with_reducible refine sw_call (dNone_raw _ _ _ _ _ _ _ _ _) ?_); rintro _ _ ⟨rfl, rfl⟩) | with_reducible refine sw_nil ?_ | with_reducible refine sq_then ?_ | with_reducible refine sc_seq ?_ | with_reducible refine sc_region ?_ | with_reducible refine sw_guard_skip ?_ | with_reducible refine sw_guard_skip_ ?_ | with_reducible refine sw_guard_run ?_ | with_reducible refine sc_cond_true ?_ | with_reducible refine sc_cond_false ?_ | with_reducible refine sc_ret ?_ | with_reducible refine sq_then_ret ?_ | with_reducible refine sc_skip ?_ | with_reducible refine sc_block ?_ | with_reducible refine sq_block ?_ | with_reducible refine sq_block_ret ?_ | with_reducible refine sc_exit ?_ | with_reducible refine sq_then_exit ?_ | with_reducible refine sq_block_exit ?_ | with_reducible refine sq_block_past ?_ | with_reducible refine sq_round_ret ?_ | with_reducible refine sq_round_exit ?_ | (with_reducible refine sc_cond (fun h => ?_) (fun h => ?_)) <;> (try (exfalso; first | contradiction | omega | exact h Iff.rfl)) | (with_reducible refine sw_guard_split (fun h => ?_) (fun h => ?_)) <;> (try (exfalso; first | contradiction | omega | exact h Iff.rfl)) | (with_reducible refine sw_pick (fun h => ?_) (fun h => ?_)) <;> (try (exfalso; first | contradiction | omega | exact h Iff.rfl)) | fail)
  refine sw_call (dWritten_ok p x.bS x.vs.length (x.vs.length + x.r.length) x.m s.down s.calls s.fuse x.kv x.f hdom) ?_
  rintro _ _ ⟨ks, hK, h⟩
  have hKD : KeysD s.dirty ks := ⟨hK.nodup, fun i => by rw [hK.mem i, hx.dom i], hK.le⟩
  have hkb := ints_bound hK.nodup fun j hj => hdom j ((hK.mem j).1 hj)
  rcases h with ⟨rfl, rfl, rfl⟩ | ⟨b, r2, rfl, rfl⟩
  · repeat' (first | with_reducible refine sw_op ?_ | with_reducible refine sw_op_ ?_ | ((with_reducible refine sw_call (valsI_ok none 0 0) ?_); rintro _ _ ⟨bx, rfl, rfl⟩) | with_reducible refine sw_nil ?_ | with_reducible refine sq_then ?_ | with_reducible refine sc_seq ?_ | with_reducible refine sc_region ?_ | with_reducible refine sw_guard_skip ?_ | with_reducible refine sw_guard_skip_ ?_ | with_reducible refine sw_guard_run ?_ | with_reducible refine sc_cond_true ?_ | with_reducible refine sc_cond_false ?_ | with_reducible refine sc_ret ?_ | with_reducible refine sq_then_ret ?_ | with_reducible refine sc_skip ?_ | with_reducible refine sc_block ?_ | with_reducible refine sq_block ?_ | with_reducible refine sq_block_ret ?_ | with_reducible refine sc_exit ?_ | with_reducible refine sq_then_exit ?_ | with_reducible refine sq_block_exit ?_ | with_reducible refine sq_block_past ?_ | with_reducible refine sq_round_ret ?_ | with_reducible refine sq_round_exit ?_ | fail)
    refine sq_ent (Ent.dup_take (k := p) (k' := p + 1) (r' := fun _ => True) fun _ _ => trivial) ?_
    refine sq_ret1 Try.results57 ?_
    refine ⟨_, ⟨bx, [], none, 0, p + 1, fun _ => True, ⟨hKD, by simp⟩, ⟨rfl, fun h => by simp at h, reads_nil _ _⟩, rfl, rfl⟩, ?_⟩
    refine Ent.trans (B := (bx, pts bx (ibx none 0 0)) :: (p + 1, fun _ => True) :: DISKl p s x F) ?_ (Ent.cons _ (Ent.cons _ (DISK.close hx)))
    unfold DISKl
    repeat' (first | with_reducible exact Ent.refl _ | with_reducible refine Ent.take_eq ?_ ?_ | rfl | with_reducible refine Ent.trans (Ent.drop _ _) ?_)
  · repeat' (first | with_reducible refine sw_op ?_ | with_reducible refine sw_op_ ?_ | ((with_reducible refine sw_call (valsI_ok (some ⟨b, 0, none⟩) ks.length (ks.length + r2.length)) ?_); rintro _ _ ⟨bx, rfl, rfl⟩) | with_reducible refine sw_nil ?_ | with_reducible refine sq_then ?_ | with_reducible refine sc_seq ?_ | with_reducible refine sc_region ?_ | with_reducible refine sw_guard_skip ?_ | with_reducible refine sw_guard_skip_ ?_ | with_reducible refine sw_guard_run ?_ | with_reducible refine sc_cond_true ?_ | with_reducible refine sc_cond_false ?_ | with_reducible refine sc_ret ?_ | with_reducible refine sq_then_ret ?_ | with_reducible refine sc_skip ?_ | with_reducible refine sc_block ?_ | with_reducible refine sq_block ?_ | with_reducible refine sq_block_ret ?_ | with_reducible refine sc_exit ?_ | with_reducible refine sq_then_exit ?_ | with_reducible refine sq_block_exit ?_ | with_reducible refine sq_block_past ?_ | with_reducible refine sq_round_ret ?_ | with_reducible refine sq_round_exit ?_ | fail)
    refine sq_ret1 Try.results57 ?_
    refine ⟨_, ⟨bx, ks, some ⟨b, 0, none⟩, ks.length + r2.length, b, pts b (.cells (ks.map (Value.int .i64) ++ r2).toArray 3 (0, 0)), ⟨hKD, by omega⟩, ⟨rfl, fun _ => ⟨b, 0, rfl⟩, reads_row⟩, rfl, rfl⟩, ?_⟩
    refine Ent.trans (B := (bx, pts bx (ibx (some ⟨b, 0, none⟩) ks.length (ks.length + r2.length))) :: (b, pts b (.cells (ks.map (Value.int .i64) ++ r2).toArray 3 (0, 0))) :: DISKl p s x F) ?_ (Ent.cons _ (Ent.cons _ (DISK.close hx)))
    unfold DISKl
    repeat' (first | with_reducible exact Ent.refl _ | with_reducible refine Ent.take_eq ?_ ?_ | rfl | with_reducible refine Ent.trans (Ent.drop _ _) ?_)
end Go.Gsl
