/- The oracle's sessions and its watermark: contracts. -/
import Derived.Test.YtccmenekmmlboaaOr1
namespace Go.Gsl
set_option linter.unusedVariables false
open Go.Proofs

/-- Close -/
theorem f24_bad (p : Nat) (s : Or) (x : Int) (hx : x < 0 ∨ 16 < x) : Spec Try.prog 24 [.pointer (some ⟨p, 0, none⟩), .int .i64 x] [p] [OR p s] fun F v Rs' => v = .int .i64 1 ∧ Rs' = (p, OR p s) :: F := by
  refine spec_of Try.func24 rfl Try.ntmps24 rfl ?_
  intro w0 F
  repeat' (first | with_reducible refine sw_op ?_ | with_reducible refine sw_op_ ?_ | ((with_reducible refine sw_call (f62_bad p s x hx) ?_); rintro _ _ ⟨rfl, rfl⟩) | with_reducible refine sw_nil ?_ | with_reducible refine sq_then ?_ | with_reducible refine sc_seq ?_ | with_reducible refine sc_region ?_ | with_reducible refine sw_guard_skip ?_ | with_reducible refine sw_guard_skip_ ?_ | with_reducible refine sw_guard_run ?_ | with_reducible refine sc_cond_true ?_ | with_reducible refine sc_cond_false ?_ | with_reducible refine sc_ret ?_ | with_reducible refine sq_then_ret ?_ | with_reducible refine sc_skip ?_ | with_reducible refine sc_block ?_ | with_reducible refine sq_block ?_ | with_reducible refine sq_block_ret ?_ | with_reducible refine sc_exit ?_ | with_reducible refine sq_then_exit ?_ | with_reducible refine sq_block_exit ?_ | with_reducible refine sq_block_past ?_ | with_reducible refine sq_round_ret ?_ | with_reducible refine sq_round_exit ?_ | (with_reducible refine sc_cond (fun h => ?_) (fun h => ?_)) <;> (try (exfalso; first | contradiction | omega | exact h Iff.rfl)) | (with_reducible refine sw_guard_split (fun h => ?_) (fun h => ?_)) <;> (try (exfalso; first | contradiction | omega | exact h Iff.rfl)) | (with_reducible refine sw_pick (fun h => ?_) (fun h => ?_)) <;> (try (exfalso; first | contradiction | omega | exact h Iff.rfl)) | fail)
  exact sq_ret1 Try.results24 ⟨_, ⟨rfl, rfl⟩, Ent.refl _⟩

theorem f24_shut (p : Nat) (s : Or) (x : Int) (h0 : 0 ≤ x) (h1 : x ≤ 16) (ht : s.O x = none) : Spec Try.prog 24 [.pointer (some ⟨p, 0, none⟩), .int .i64 x] [p] [OR p s] fun F v Rs' => v = .int .i64 141 ∧ Rs' = (p, OR p s) :: F := by
  refine spec_of Try.func24 rfl Try.ntmps24 rfl ?_
  intro w0 F
  repeat' (first | with_reducible refine sw_op ?_ | with_reducible refine sw_op_ ?_ | ((with_reducible refine sw_call (f62_ok p s x h0 h1) ?_); rintro _ _ ⟨rfl, rfl⟩) | with_reducible refine sw_nil ?_ | with_reducible refine sq_then ?_ | with_reducible refine sc_seq ?_ | with_reducible refine sc_region ?_ | with_reducible refine sw_guard_skip ?_ | with_reducible refine sw_guard_skip_ ?_ | with_reducible refine sw_guard_run ?_ | with_reducible refine sc_cond_true ?_ | with_reducible refine sc_cond_false ?_ | with_reducible refine sc_ret ?_ | with_reducible refine sq_then_ret ?_ | with_reducible refine sc_skip ?_ | with_reducible refine sc_block ?_ | with_reducible refine sq_block ?_ | with_reducible refine sq_block_ret ?_ | with_reducible refine sc_exit ?_ | with_reducible refine sq_then_exit ?_ | with_reducible refine sq_block_exit ?_ | with_reducible refine sq_block_past ?_ | with_reducible refine sq_round_ret ?_ | with_reducible refine sq_round_exit ?_ | (with_reducible refine sc_cond (fun h => ?_) (fun h => ?_)) <;> (try (exfalso; first | contradiction | omega | exact h Iff.rfl)) | (with_reducible refine sw_guard_split (fun h => ?_) (fun h => ?_)) <;> (try (exfalso; first | contradiction | omega | exact h Iff.rfl)) | (with_reducible refine sw_pick (fun h => ?_) (fun h => ?_)) <;> (try (exfalso; first | contradiction | omega | exact h Iff.rfl)) | fail)
  refine OR.sw (p := p) (s := s) fun hw l q m1 m2 => ?_
  unfold ORl
  repeat' (first | with_reducible refine sw_op ?_ | with_reducible refine sw_op_ ?_ | with_reducible refine sw_nil ?_ | with_reducible refine sq_then ?_ | with_reducible refine sc_seq ?_ | with_reducible refine sc_region ?_ | with_reducible refine sw_guard_skip ?_ | with_reducible refine sw_guard_skip_ ?_ | with_reducible refine sw_guard_run ?_ | with_reducible refine sc_cond_true ?_ | with_reducible refine sc_cond_false ?_ | with_reducible refine sc_ret ?_ | with_reducible refine sq_then_ret ?_ | with_reducible refine sc_skip ?_ | with_reducible refine sc_block ?_ | with_reducible refine sq_block ?_ | with_reducible refine sq_block_ret ?_ | with_reducible refine sc_exit ?_ | with_reducible refine sq_then_exit ?_ | with_reducible refine sq_block_exit ?_ | with_reducible refine sq_block_past ?_ | with_reducible refine sq_round_ret ?_ | with_reducible refine sq_round_exit ?_ | fail)
  rw [ht]
  repeat' (first | with_reducible refine sw_op ?_ | with_reducible refine sw_op_ ?_ | with_reducible refine sw_nil ?_ | with_reducible refine sq_then ?_ | with_reducible refine sc_seq ?_ | with_reducible refine sc_region ?_ | with_reducible refine sw_guard_skip ?_ | with_reducible refine sw_guard_skip_ ?_ | with_reducible refine sw_guard_run ?_ | with_reducible refine sc_cond_true ?_ | with_reducible refine sc_cond_false ?_ | with_reducible refine sc_ret ?_ | with_reducible refine sq_then_ret ?_ | with_reducible refine sc_skip ?_ | with_reducible refine sc_block ?_ | with_reducible refine sq_block ?_ | with_reducible refine sq_block_ret ?_ | with_reducible refine sc_exit ?_ | with_reducible refine sq_then_exit ?_ | with_reducible refine sq_block_exit ?_ | with_reducible refine sq_block_past ?_ | with_reducible refine sq_round_ret ?_ | with_reducible refine sq_round_exit ?_ | (with_reducible refine sc_cond (fun h => ?_) (fun h => ?_)) <;> (try (exfalso; first | contradiction | omega | exact h Iff.rfl)) | fail)
  refine sq_ret1 Try.results24 ⟨_, ⟨rfl, rfl⟩, Ent.trans (B := ORl p s l q m1 m2 F) ?_ (OR.close hw)⟩
  unfold ORl
  repeat' (first | with_reducible exact Ent.refl _ | with_reducible refine Ent.take_eq ?_ ?_ | rfl | with_reducible refine Ent.trans (Ent.drop _ _) ?_)

def Or.shut (s : Or) (x : Int) : Or := { s with O := fun j => if j = x then none else s.O j }
theorem Or.shut_wf {s : Or} (h : s.Wf) (x : Int) : (s.shut x).Wf where
  p0 := h.p0
  pl := h.pl
  lm := h.lm
  a1 := h.a1
  alo := h.alo
  ahi := h.ahi
  od := fun i t hi => by
    simp only [Or.shut] at hi
    split at hi
    · cases hi
    · exact h.od i t hi
  ov := fun i t hi => by
    simp only [Or.shut] at hi
    split at hi
    · cases hi
    · exact h.ov i t hi

theorem f24_ok (p : Nat) (s : Or) (x t : Int) (h0 : 0 ≤ x) (h1 : x ≤ 16) (ht : s.O x = some t) : Spec Try.prog 24 [.pointer (some ⟨p, 0, none⟩), .int .i64 x] [p] [OR p s] fun F v Rs' => v = .int .i64 0 ∧ Rs' = (p, OR p (s.shut x)) :: F := by
  refine spec_of Try.func24 rfl Try.ntmps24 rfl ?_
  intro w0 F
  repeat' (first | with_reducible refine sw_op ?_ | with_reducible refine sw_op_ ?_ | ((with_reducible refine sw_call (f62_ok p s x h0 h1) ?_); rintro _ _ ⟨rfl, rfl⟩) | with_reducible refine sw_nil ?_ | with_reducible refine sq_then ?_ | with_reducible refine sc_seq ?_ | with_reducible refine sc_region ?_ | with_reducible refine sw_guard_skip ?_ | with_reducible refine sw_guard_skip_ ?_ | with_reducible refine sw_guard_run ?_ | with_reducible refine sc_cond_true ?_ | with_reducible refine sc_cond_false ?_ | with_reducible refine sc_ret ?_ | with_reducible refine sq_then_ret ?_ | with_reducible refine sc_skip ?_ | with_reducible refine sc_block ?_ | with_reducible refine sq_block ?_ | with_reducible refine sq_block_ret ?_ | with_reducible refine sc_exit ?_ | with_reducible refine sq_then_exit ?_ | with_reducible refine sq_block_exit ?_ | with_reducible refine sq_block_past ?_ | with_reducible refine sq_round_ret ?_ | with_reducible refine sq_round_exit ?_ | (with_reducible refine sc_cond (fun h => ?_) (fun h => ?_)) <;> (try (exfalso; first | contradiction | omega | exact h Iff.rfl)) | (with_reducible refine sw_guard_split (fun h => ?_) (fun h => ?_)) <;> (try (exfalso; first | contradiction | omega | exact h Iff.rfl)) | (with_reducible refine sw_pick (fun h => ?_) (fun h => ?_)) <;> (try (exfalso; first | contradiction | omega | exact h Iff.rfl)) | fail)
  refine OR.sw (p := p) (s := s) fun hw l q m1 m2 => ?_
  unfold ORl
  repeat' (first | with_reducible refine sw_op ?_ | with_reducible refine sw_op_ ?_ | with_reducible refine sw_nil ?_ | with_reducible refine sq_then ?_ | with_reducible refine sc_seq ?_ | with_reducible refine sc_region ?_ | with_reducible refine sw_guard_skip ?_ | with_reducible refine sw_guard_skip_ ?_ | with_reducible refine sw_guard_run ?_ | with_reducible refine sc_cond_true ?_ | with_reducible refine sc_cond_false ?_ | with_reducible refine sc_ret ?_ | with_reducible refine sq_then_ret ?_ | with_reducible refine sc_skip ?_ | with_reducible refine sc_block ?_ | with_reducible refine sq_block ?_ | with_reducible refine sq_block_ret ?_ | with_reducible refine sc_exit ?_ | with_reducible refine sq_then_exit ?_ | with_reducible refine sq_block_exit ?_ | with_reducible refine sq_block_past ?_ | with_reducible refine sq_round_ret ?_ | with_reducible refine sq_round_exit ?_ | fail)
  rw [ht]
  repeat' (first | with_reducible refine sw_op ?_ | with_reducible refine sw_op_ ?_ | with_reducible refine sw_delete ?_ | with_reducible refine sw_nil ?_ | with_reducible refine sq_then ?_ | with_reducible refine sc_seq ?_ | with_reducible refine sc_region ?_ | with_reducible refine sw_guard_skip ?_ | with_reducible refine sw_guard_skip_ ?_ | with_reducible refine sw_guard_run ?_ | with_reducible refine sc_cond_true ?_ | with_reducible refine sc_cond_false ?_ | with_reducible refine sc_ret ?_ | with_reducible refine sq_then_ret ?_ | with_reducible refine sc_skip ?_ | with_reducible refine sc_block ?_ | with_reducible refine sq_block ?_ | with_reducible refine sq_block_ret ?_ | with_reducible refine sc_exit ?_ | with_reducible refine sq_then_exit ?_ | with_reducible refine sq_block_exit ?_ | with_reducible refine sq_block_past ?_ | with_reducible refine sq_round_ret ?_ | with_reducible refine sq_round_exit ?_ | (with_reducible refine sc_cond (fun h => ?_) (fun h => ?_)) <;> (try (exfalso; first | contradiction | omega | exact h Iff.rfl)) | fail)
  rw [imap_del]
  refine sq_ret1 Try.results24 ⟨_, ⟨rfl, rfl⟩, Ent.trans (B := ORl p (s.shut x) l q m1 m2 F) ?_ (OR.close (Or.shut_wf hw x))⟩
  unfold ORl
  repeat' (first | with_reducible exact Ent.refl _ | with_reducible refine Ent.take_eq ?_ ?_ | rfl | with_reducible refine Ent.trans (Ent.drop _ _) ?_)

/-- Snapshot -/
theorem f30_ok (p : Nat) (s : Or) (x : Int) : Spec Try.prog 30 [.pointer (some ⟨p, 0, none⟩), .int .i64 x] [p] [OR p s] fun F v Rs' => v = .tuple #[.int .i64 ((s.O x).getD 0), .bool (s.O x).isSome] ∧ Rs' = (p, OR p s) :: F := by
  refine spec_of Try.func30 rfl Try.ntmps30 rfl ?_
  intro w0 F
  refine OR.sc (p := p) (s := s) fun hw l q m1 m2 => ?_
  unfold ORl
  repeat' (first | with_reducible refine sw_op ?_ | with_reducible refine sw_op_ ?_ | ((with_reducible refine sw_call (f59_ok p _ _ _ _) ?_); rintro _ _ ⟨rfl, rfl⟩) | with_reducible refine sw_nil ?_ | with_reducible refine sq_then ?_ | with_reducible refine sc_seq ?_ | with_reducible refine sc_region ?_ | with_reducible refine sw_guard_skip ?_ | with_reducible refine sw_guard_skip_ ?_ | with_reducible refine sw_guard_run ?_ | with_reducible refine sc_cond_true ?_ | with_reducible refine sc_cond_false ?_ | with_reducible refine sc_ret ?_ | with_reducible refine sq_then_ret ?_ | with_reducible refine sc_skip ?_ | with_reducible refine sc_block ?_ | with_reducible refine sq_block ?_ | with_reducible refine sq_block_ret ?_ | with_reducible refine sc_exit ?_ | with_reducible refine sq_then_exit ?_ | with_reducible refine sq_block_exit ?_ | with_reducible refine sq_block_past ?_ | with_reducible refine sq_round_ret ?_ | with_reducible refine sq_round_exit ?_ | fail)
  refine sq_ret2 Try.results30 ⟨_, ⟨rfl, rfl⟩, Ent.trans (B := ORl p s l q m1 m2 F) ?_ (OR.close hw)⟩
  unfold ORl
  repeat' (first | with_reducible exact Ent.refl _ | with_reducible refine Ent.take_eq ?_ ?_ | rfl | with_reducible refine Ent.trans (Ent.drop _ _) ?_)

/-- Watermark: the least of the snapshots and what is published -/
structure Or.Least (s : Or) (w : Int) : Prop where
  le : w ≤ s.pub
  all : ∀ x t, s.O x = some t → w ≤ t
  is : w = s.pub ∨ ∃ x, s.O x = some w

theorem imap_mem {O : Int → Option Int} {i : Int} {v : Value} (h : imap O i = some v) : ∃ t, O i = some t ∧ v = .int .i64 t := by
  unfold imap at h
  cases ho : O i with
  | none => rw [ho] at h; cases h
  | some t => rw [ho] at h; simp at h; exact ⟨t, rfl, h.symm⟩

/-- what the loop of Watermark keeps -/
structure WmJ (s : Or) (N : Nat) (x : Int × List (Int × Value)) : Prop where
  le : x.1 ≤ s.pub
  all : ∀ i t, (i, Value.int .i64 t) ∈ x.2 → x.1 ≤ t
  is : x.1 = s.pub ∨ ∃ i, s.O i = some x.1

theorem WmJ.start (s : Or) (N : Nat) : WmJ s N (s.pub, []) := ⟨Int.le_refl _, fun _ _ h => (by cases h), Or.inl rfl⟩
theorem WmJ.next {s : Or} {N : Nat} {u i t : Int} {D : List (Int × Value)} (h : WmJ s N (u, D)) (ht : s.O i = some t) : WmJ s N (if t < u then t else u, D ++ [(i, .int .i64 t)]) where
  le := by have := h.le; simp only at this; show (if t < u then t else u) ≤ s.pub; split <;> omega
  all := fun j v hm => by
    have h0 := fun h' => h.all j v h'
    simp only at h0
    show (if t < u then t else u) ≤ v
    rcases List.mem_append.1 hm with h1 | h1
    · have := h0 h1; split <;> omega
    · simp only [List.mem_singleton, Prod.mk.injEq, Value.int.injEq, true_and] at h1
      rw [h1.2]; split <;> omega
  is := by
    show (if t < u then t else u) = s.pub ∨ _
    split
    · exact Or.inr ⟨i, ht⟩
    · exact h.is

theorem f21_ok (p : Nat) (s : Or) : Spec Try.prog 21 [.pointer (some ⟨p, 0, none⟩)] [p] [OR p s] fun F v Rs' => ∃ w, s.Least w ∧ v = .int .i64 w ∧ Rs' = (p, OR p s) :: F := by
  refine spec_of Try.func21 rfl Try.ntmps21 rfl ?_
  intro w0 F
  refine OR.sc (p := p) (s := s) fun hw l q m1 m2 => ?_
  unfold ORl
  repeat' (first | with_reducible refine sw_op ?_ | with_reducible refine sw_op_ ?_ | ((with_reducible refine sw_call (f59_ok p _ _ _ _) ?_); rintro _ _ ⟨rfl, rfl⟩) | ((with_reducible refine sw_call (f18_raw p l q m1 m2 s.pub) ?_); rintro _ _ ⟨rfl, rfl⟩) | with_reducible refine sw_nil ?_ | with_reducible refine sq_then ?_ | with_reducible refine sc_seq ?_ | with_reducible refine sc_region ?_ | with_reducible refine sw_guard_skip ?_ | with_reducible refine sw_guard_skip_ ?_ | with_reducible refine sw_guard_run ?_ | with_reducible refine sc_cond_true ?_ | with_reducible refine sc_cond_false ?_ | with_reducible refine sc_ret ?_ | with_reducible refine sq_then_ret ?_ | with_reducible refine sc_skip ?_ | with_reducible refine sc_block ?_ | with_reducible refine sq_block ?_ | with_reducible refine sq_block_ret ?_ | with_reducible refine sc_exit ?_ | with_reducible refine sq_then_exit ?_ | with_reducible refine sq_block_exit ?_ | with_reducible refine sq_block_past ?_ | with_reducible refine sq_round_ret ?_ | with_reducible refine sq_round_exit ?_ | fail)
  refine sw_range fun r N => ?_
  repeat' (first | with_reducible refine sw_op ?_ | with_reducible refine sw_op_ ?_ | with_reducible refine sw_nil ?_ | with_reducible refine sq_then ?_ | with_reducible refine sc_seq ?_ | with_reducible refine sc_region ?_ | with_reducible refine sw_guard_skip ?_ | with_reducible refine sw_guard_skip_ ?_ | with_reducible refine sw_guard_run ?_ | with_reducible refine sc_cond_true ?_ | with_reducible refine sc_cond_false ?_ | with_reducible refine sc_ret ?_ | with_reducible refine sq_then_ret ?_ | with_reducible refine sc_skip ?_ | with_reducible refine sc_block ?_ | with_reducible refine sq_block ?_ | with_reducible refine sq_block_ret ?_ | with_reducible refine sc_exit ?_ | with_reducible refine sq_then_exit ?_ | with_reducible refine sq_block_exit ?_ | with_reducible refine sq_block_past ?_ | with_reducible refine sq_round_ret ?_ | with_reducible refine sq_round_exit ?_ | fail)
  refine sc_loop (α := { x : Int × List (Int × Value) // WmJ s N x }) (fun x => [(0, .pointer (some ⟨p, 0, none⟩)), (3, .int .i64 x.1.1), (14, .pointer (some ⟨r, 0, none⟩))])
    (fun x => (r, ItI .i64 m2 r (imap s.O) N x.1.2) :: (p, pts p (orow l q m1 m2)) :: (l, pts l (atom s.last)) :: (q, pts q (atom s.pub)) :: (m1, MapI .i64 m1 (bmap s.A)) :: F) (fun x => N - x.1.2.length)
    ⟨(s.pub, []), WmJ.start s N⟩ ?_ ?_ ?_
  · exact says_cons rfl (says_cons rfl (says_cons rfl says_nil))
  · repeat' (first | with_reducible exact Ent.refl _ | with_reducible refine Ent.take_eq ?_ ?_ | rfl | with_reducible refine Ent.trans (Ent.drop _ _) ?_)
  · rintro ⟨⟨u, D⟩, hJ⟩ e
    have hj1 := hJ.le
    simp only [List.cons_append, List.nil_append]
    repeat' (first | with_reducible refine sw_op ?_ | with_reducible refine sw_op_ ?_ | with_reducible refine sw_nil ?_ | with_reducible refine sq_then ?_ | with_reducible refine sc_seq ?_ | with_reducible refine sc_region ?_ | with_reducible refine sw_guard_skip ?_ | with_reducible refine sw_guard_skip_ ?_ | with_reducible refine sw_guard_run ?_ | with_reducible refine sc_cond_true ?_ | with_reducible refine sc_cond_false ?_ | with_reducible refine sc_ret ?_ | with_reducible refine sq_then_ret ?_ | with_reducible refine sc_skip ?_ | with_reducible refine sc_block ?_ | with_reducible refine sq_block ?_ | with_reducible refine sq_block_ret ?_ | with_reducible refine sc_exit ?_ | with_reducible refine sq_then_exit ?_ | with_reducible refine sq_block_exit ?_ | with_reducible refine sq_block_past ?_ | with_reducible refine sq_round_ret ?_ | with_reducible refine sq_round_exit ?_ | fail)
    refine sw_next (fun hall => ?_) (fun i v hi hnew hlt => ?_)
    · repeat' (first | with_reducible refine sw_op ?_ | with_reducible refine sw_op_ ?_ | with_reducible refine sw_nil ?_ | with_reducible refine sq_then ?_ | with_reducible refine sc_seq ?_ | with_reducible refine sc_region ?_ | with_reducible refine sw_guard_skip ?_ | with_reducible refine sw_guard_skip_ ?_ | with_reducible refine sw_guard_run ?_ | with_reducible refine sc_cond_true ?_ | with_reducible refine sc_cond_false ?_ | with_reducible refine sc_ret ?_ | with_reducible refine sq_then_ret ?_ | with_reducible refine sc_skip ?_ | with_reducible refine sc_block ?_ | with_reducible refine sq_block ?_ | with_reducible refine sq_block_ret ?_ | with_reducible refine sc_exit ?_ | with_reducible refine sq_then_exit ?_ | with_reducible refine sq_block_exit ?_ | with_reducible refine sq_block_past ?_ | with_reducible refine sq_round_ret ?_ | with_reducible refine sq_round_exit ?_ | fail)
      refine sq_ret1 Try.results21 ⟨_, ⟨u, ⟨hj1, fun x t ht => hJ.all x t (hall x _ (by unfold imap; rw [ht]; rfl)), hJ.is⟩, rfl, rfl⟩, ?_⟩
      refine ItI.map.trans (Ent.trans (B := ORl p s l q m1 m2 F) ?_ (OR.close hw))
      unfold ORl
      repeat' (first | with_reducible exact Ent.refl _ | with_reducible refine Ent.take_eq ?_ ?_ | rfl | with_reducible refine Ent.trans (Ent.drop _ _) ?_)
    · obtain ⟨t, ht, rfl⟩ := imap_mem hi
      repeat' (first | with_reducible refine sw_op ?_ | with_reducible refine sw_op_ ?_ | with_reducible refine sw_nil ?_ | with_reducible refine sq_then ?_ | with_reducible refine sc_seq ?_ | with_reducible refine sc_region ?_ | with_reducible refine sw_guard_skip ?_ | with_reducible refine sw_guard_skip_ ?_ | with_reducible refine sw_guard_run ?_ | with_reducible refine sc_cond_true ?_ | with_reducible refine sc_cond_false ?_ | with_reducible refine sc_ret ?_ | with_reducible refine sq_then_ret ?_ | with_reducible refine sc_skip ?_ | with_reducible refine sc_block ?_ | with_reducible refine sq_block ?_ | with_reducible refine sq_block_ret ?_ | with_reducible refine sc_exit ?_ | with_reducible refine sq_then_exit ?_ | with_reducible refine sq_block_exit ?_ | with_reducible refine sq_block_past ?_ | with_reducible refine sq_round_ret ?_ | with_reducible refine sq_round_exit ?_ | fail)
      refine sq_round ⟨_, hJ.next ht⟩ ?_ ?_ ?_
      · simp only [List.length_append, List.length_singleton] at hlt ⊢
        omega
      · exact says_cons rfl (says_cons rfl (says_cons rfl says_nil))
      · repeat' (first | with_reducible exact Ent.refl _ | with_reducible refine Ent.take_eq ?_ ?_ | rfl | with_reducible refine Ent.trans (Ent.drop _ _) ?_)

end Go.Gsl
