/- OracleOrder: the walk. -/
import Derived.Test.YtccmenekmmlboaaOr4
import Derived.Test.YtccmenekmmlboaaGsl9
namespace Go.Gsl
set_option linter.unusedVariables false
open Go.Proofs Go.RowKit

/-- what is pending, by the oracle's state -/
def PendOf (s : Or) (pend : Int → Bool) : Prop := ∀ j, pend j = true ↔ s.pub < j ∧ j ≤ s.last ∧ s.A j = false

theorem pend_new (x : Int) : PendOf (Or.new x) (fun _ => false) := fun j => by
  simp only [Or.new]
  constructor
  · intro h; cases h
  · intro h; omega
theorem pend_next {s : Or} {pend : Int → Bool} (hw : s.Wf) (h : PendOf s pend) : PendOf s.next (fun j => j == s.last + 1 || pend j) := fun j => by
  have h1 := h j
  have h2 := hw.ahi j
  have h3 := hw.pl
  have e1 : s.next.last = s.last + 1 := rfl
  have e2 : s.next.pub = s.pub := rfl
  have e3 : s.next.A = s.A := rfl
  rw [e1, e2, e3]
  by_cases hj : j = s.last + 1
  · subst hj
    cases ha : s.A (s.last + 1) with
    | true => have := h2 ha; omega
    | false => simp; omega
  · simp only [hj, Bool.or_eq_true, beq_iff_eq, false_or]
    rw [h1]
    constructor
    · rintro ⟨a, b, c⟩; exact ⟨a, by omega, c⟩
    · rintro ⟨a, b, c⟩; exact ⟨a, by omega, c⟩
theorem pend_pub {s s' : Or} {pend : Int → Bool} {ts : Int} (h : PendOf s pend) (hp : s.Pub ts s') : PendOf s' (fun j => j != ts && pend j) := fun j => by
  have h1 := h j
  have h2 := hp.run j
  have h3 := hp.A j
  have h4 := hp.le
  have h5 := hp.last
  simp only [Bool.and_eq_true, bne_iff_ne, h1, h3, h5]
  constructor
  · rintro ⟨a, b, c, d⟩
    have h6 : s'.pub < j := by
      rcases Int.lt_or_le s'.pub j with h6 | h6
      · exact h6
      · rcases h2 b h6 with h7 | h7
        · exact absurd h7 a
        · rw [h7] at d; cases d
    exact ⟨h6, c, by simp [a, d]⟩
  · rintro ⟨a, b, c⟩
    simp only [a, decide_true, Bool.true_and, Bool.or_eq_false_iff, decide_eq_false_iff_not] at c
    exact ⟨c.1, by omega, b, c.2⟩
theorem pend_bad {s : Or} {pend : Int → Bool} {ts : Int} (h : PendOf s pend) (hb : ts ≤ s.pub ∨ s.last < ts ∨ s.A ts = true) : pend ts = false ∧ PendOf s (fun j => j != ts && pend j) := by
  have h0 : pend ts = false := by
    cases hp : pend ts with
    | false => rfl
    | true =>
      obtain ⟨a, b, c⟩ := (h ts).1 hp
      rcases hb with hb | hb | hb
      · omega
      · omega
      · rw [hb] at c; cases c
  refine ⟨h0, fun j => ?_⟩
  rw [← h j]
  by_cases hj : j = ts
  · subst hj; simp [h0]
  · simp [hj]
theorem pend_good {s : Or} {pend : Int → Bool} {ts : Int} (h : PendOf s pend) (h1 : s.pub < ts) (h2 : ts ≤ s.last) (h3 : s.A ts = false) : pend ts = true := (h ts).2 ⟨h1, h2, h3⟩

/-- what check's loop keeps -/
structure ChkJ (L : Int) (lo : Int) (pend : Int → Bool) (x : Int × Int) : Prop where
  lo : lo ≤ x.2
  hi : x.2 ≤ L
  all : ∀ i, x.2 < i → i ≤ L → pend i = true → x.1 + 1 ≤ i
  is : x.1 = L ∨ (pend (x.1 + 1) = true ∧ x.2 < x.1 + 1 ∧ x.1 + 1 ≤ L)
theorem ChkJ.next {L lo u t : Int} {pend : Int → Bool} (h : ChkJ L lo pend (u, t)) (ht : lo < t) (hp : pend t = true) : ChkJ L lo pend (t - 1, t - 1) := by
  have := h.hi
  simp only at this
  refine ⟨by show lo ≤ t - 1; omega, by show t - 1 ≤ L; omega, fun i h1 h2 h3 => ?_, Or.inr ⟨by show pend (t - 1 + 1) = true; rw [show t - 1 + 1 = t by omega]; exact hp, by show t - 1 < t - 1 + 1; omega, by show t - 1 + 1 ≤ L; omega⟩⟩
  show t - 1 + 1 ≤ i
  simp only at h1
  omega
theorem ChkJ.skip {L lo u t : Int} {pend : Int → Bool} (h : ChkJ L lo pend (u, t)) (ht : lo < t) (hp : ¬ pend t = true) : ChkJ L lo pend (u, t - 1) := by
  have h0 := h.hi
  simp only at h0
  refine ⟨by show lo ≤ t - 1; omega, by show t - 1 ≤ L; omega, fun i h1 h2 h3 => ?_, ?_⟩
  · simp only at h1
    by_cases hi : i = t
    · subst hi; exact absurd h3 hp
    · exact h.all i (by show t < i; omega) h2 h3
  · rcases h.is with h1 | ⟨h1, h2, h3⟩
    · exact Or.inl h1
    · exact Or.inr ⟨h1, by simp only at h2 ⊢; omega, h3⟩
theorem ChkJ.done {s : Or} {lo u t : Int} {pend : Int → Bool} (hw : s.Wf) (h : ChkJ s.last lo pend (u, t)) (hlo : lo ≤ s.pub) (hp : PendOf s pend) (ht : t ≤ lo) : s.pub = u := by
  have h1 := hw.pl
  have h3 : s.pub < s.last → pend (s.pub + 1) = true := fun hlt => (hp _).2 ⟨by omega, by omega, hw.a1⟩
  have h4 : s.pub < s.last → u + 1 ≤ s.pub + 1 := fun hlt => h.all (s.pub + 1) (by show t < _; omega) (by omega) (h3 hlt)
  rcases h.is with h5 | ⟨h5, h6, h7⟩
  · simp only at h5
    by_cases hlt : s.pub < s.last
    · have := h4 hlt; omega
    · omega
  · simp only at h5 h6 h7
    obtain ⟨a, b, c⟩ := (hp _).1 h5
    by_cases hlt : s.pub < s.last
    · have := h4 hlt; omega
    · omega

abbrev ubox (x : Int) : Obj := .cells [.int .u32 x].toArray 22 (0, 0)
abbrev ibox (x : Int) : Obj := .cells [.int .i64 x].toArray 2 (0, 0)
abbrev mbox (m : Nat) : Obj := .cells [.map (some m)].toArray 29 (0, 0)
abbrev pbox (p : Nat) : Obj := .cells [.pointer (some ⟨p, 0, none⟩)].toArray 24 (0, 0)

/-- check -/
theorem f17_ok (bl bn bm bp p m : Nat) (x k : Int) (s : Or) (pend : Int → Bool) (h0 : 0 ≤ x ∧ x ≤ 4294967295) (hk : 0 ≤ k ∧ k ≤ 30) (hl : s.last = x + k) (hlo : x ≤ s.pub) (hp : PendOf s pend) :
    Spec Try.prog 17 [.pointer (some ⟨bl, 0, none⟩), .pointer (some ⟨bn, 0, none⟩), .pointer (some ⟨bm, 0, none⟩), .pointer (some ⟨bp, 0, none⟩)] [bl, bn, bm, bp, m, p]
      [pts bl (ubox x), pts bn (ibox k), pts bm (mbox m), pts bp (pbox p), MapI .i64 m (bmap pend), OR p s]
      fun F v Rs' => v = .bool true ∧ Rs' = (bl, pts bl (ubox x)) :: (bn, pts bn (ibox k)) :: (bm, pts bm (mbox m)) :: (bp, pts bp (pbox p)) :: (m, MapI .i64 m (bmap pend)) :: (p, OR p s) :: F := by
  refine spec_of Try.func17 rfl Try.ntmps17 rfl ?_
  intro w0 F
  repeat' (first | with_reducible refine sw_conv_i64 (by omega) ?_ | with_reducible refine sw_i64 (by omega) ?_ | with_reducible refine sw_op ?_ | with_reducible refine sw_op_ ?_ | with_reducible refine sw_nil ?_ | with_reducible refine sq_then ?_ | with_reducible refine sc_seq ?_ | with_reducible refine sc_region ?_ | with_reducible refine sw_guard_skip ?_ | with_reducible refine sw_guard_skip_ ?_ | with_reducible refine sw_guard_run ?_ | with_reducible refine sc_cond_true ?_ | with_reducible refine sc_cond_false ?_ | with_reducible refine sc_ret ?_ | with_reducible refine sq_then_ret ?_ | with_reducible refine sc_skip ?_ | with_reducible refine sc_block ?_ | with_reducible refine sq_block ?_ | with_reducible refine sq_block_ret ?_ | with_reducible refine sc_exit ?_ | with_reducible refine sq_then_exit ?_ | with_reducible refine sq_block_exit ?_ | with_reducible refine sq_block_past ?_ | with_reducible refine sq_round_ret ?_ | with_reducible refine sq_round_exit ?_ | fail)
  refine sc_loop (α := { y : Int × Int // ChkJ s.last x pend y }) (fun y => [(0, .pointer (some ⟨bl, 0, none⟩)), (1, .pointer (some ⟨bn, 0, none⟩)), (2, .pointer (some ⟨bm, 0, none⟩)), (3, .pointer (some ⟨bp, 0, none⟩)), (5, .int .i64 y.1.1), (6, .int .i64 y.1.2)])
    (fun _ => (bl, pts bl (ubox x)) :: (bn, pts bn (ibox k)) :: (bm, pts bm (mbox m)) :: (bp, pts bp (pbox p)) :: (m, MapI .i64 m (bmap pend)) :: (p, OR p s) :: F) (fun y => (y.1.2 - x).toNat)
    ⟨(x + k, x + k), ⟨by show x ≤ x + k; omega, by show x + k ≤ _; omega, fun i h1 h2 _ => by simp only at h1; omega, Or.inl hl.symm⟩⟩ ?_ ?_ ?_
  · exact says_cons rfl (says_cons rfl (says_cons rfl (says_cons rfl (says_cons rfl (says_cons rfl says_nil)))))
  · repeat' (first | with_reducible exact Ent.refl _ | with_reducible refine Ent.take_eq ?_ ?_ | rfl | with_reducible refine Ent.trans (Ent.drop _ _) ?_)
  · rintro ⟨⟨u, t⟩, hJ⟩ e
    have hj1 := hJ.lo
    have hj2 := hJ.hi
    simp only at hj1 hj2
    simp only [List.cons_append, List.nil_append]
    repeat' (first | with_reducible refine sw_conv_i64 (by omega) ?_ | with_reducible refine sw_i64 (by omega) ?_ | with_reducible refine sw_op ?_ | with_reducible refine sw_op_ ?_ | with_reducible refine sw_nil ?_ | with_reducible refine sq_then ?_ | with_reducible refine sc_seq ?_ | with_reducible refine sc_region ?_ | with_reducible refine sw_guard_skip ?_ | with_reducible refine sw_guard_skip_ ?_ | with_reducible refine sw_guard_run ?_ | with_reducible refine sc_cond_true ?_ | with_reducible refine sc_cond_false ?_ | with_reducible refine sc_ret ?_ | with_reducible refine sq_then_ret ?_ | with_reducible refine sc_skip ?_ | with_reducible refine sc_block ?_ | with_reducible refine sq_block ?_ | with_reducible refine sq_block_ret ?_ | with_reducible refine sc_exit ?_ | with_reducible refine sq_then_exit ?_ | with_reducible refine sq_block_exit ?_ | with_reducible refine sq_block_past ?_ | with_reducible refine sq_round_ret ?_ | with_reducible refine sq_round_exit ?_ | (with_reducible refine sc_cond (fun h => ?_) (fun h => ?_)) <;> (try (exfalso; first | contradiction | omega | exact h Iff.rfl)) | (with_reducible refine sw_guard_split (fun h => ?_) (fun h => ?_)) <;> (try (exfalso; first | contradiction | omega | exact h Iff.rfl)) | (with_reducible refine sw_pick (fun h => ?_) (fun h => ?_)) <;> (try (exfalso; first | contradiction | omega | exact h Iff.rfl)) | fail)
    · rename_i ht
      refine sq_round ⟨_, hJ.next ht h⟩ ?_ ?_ ?_
      · show (t - 1 - x).toNat < (t - x).toNat
        omega
      · exact says_cons rfl (says_cons rfl (says_cons rfl (says_cons rfl (says_cons rfl (says_cons rfl says_nil)))))
      · repeat' (first | with_reducible exact Ent.refl _ | with_reducible refine Ent.take_eq ?_ ?_ | rfl | with_reducible refine Ent.trans (Ent.drop _ _) ?_)
    · rename_i ht
      refine sq_round ⟨_, hJ.skip ht h⟩ ?_ ?_ ?_
      · show (t - 1 - x).toNat < (t - x).toNat
        omega
      · exact says_cons rfl (says_cons rfl (says_cons rfl (says_cons rfl (says_cons rfl (says_cons rfl says_nil)))))
      · repeat' (first | with_reducible exact Ent.refl _ | with_reducible refine Ent.take_eq ?_ ?_ | rfl | with_reducible refine Ent.trans (Ent.drop _ _) ?_)
    · refine OR.scwf (p := p) (s := s) fun hw => ?_
      have hd := hJ.done hw hlo hp (by omega)
      refine sc_drawG (m := 14) ([(bl, pts bl (ubox x)), (bn, pts bn (ibox k)), (bp, pts bp (pbox p))]) (by kernel_rfl) rfl ?_
      all_goals (first | refine sg_take 0 (by repeat' (first | with_reducible exact calm_post | with_reducible refine Calm.then ?_ | with_reducible refine Calm.block ?_ | with_reducible refine Calm.round ?_ | with_reducible refine Calm.mark ?_)) rfl (by kernel_rfl) (by kernel_rfl) (by kernel_rfl) ?_)
      all_goals (first | refine sg_take 2 (by repeat' (first | with_reducible exact calm_post | with_reducible refine Calm.then ?_ | with_reducible refine Calm.block ?_ | with_reducible refine Calm.round ?_ | with_reducible refine Calm.mark ?_)) rfl (by kernel_rfl) (by kernel_rfl) (by kernel_rfl) ?_)
      all_goals (refine sg_one 1 rfl (by kernel_rfl) rfl ?_)
      all_goals (repeat' (first | with_reducible refine sw_op ?_ | with_reducible refine sw_op_ ?_ | ((with_reducible refine sw_call (f18_ok p s) ?_); rintro _ _ ⟨rfl, rfl⟩) | ((with_reducible refine sw_call (f19_ok p s) ?_); rintro _ _ ⟨rfl, rfl⟩) | with_reducible refine sg_back ?_ | with_reducible refine sw_nil ?_ | with_reducible refine sq_then ?_ | with_reducible refine sc_seq ?_ | with_reducible refine sc_region ?_ | with_reducible refine sw_guard_skip ?_ | with_reducible refine sw_guard_skip_ ?_ | with_reducible refine sw_guard_run ?_ | with_reducible refine sc_cond_true ?_ | with_reducible refine sc_cond_false ?_ | with_reducible refine sc_ret ?_ | with_reducible refine sq_then_ret ?_ | with_reducible refine sc_skip ?_ | with_reducible refine sc_block ?_ | with_reducible refine sq_block ?_ | with_reducible refine sq_block_ret ?_ | with_reducible refine sc_exit ?_ | with_reducible refine sq_then_exit ?_ | with_reducible refine sq_block_exit ?_ | with_reducible refine sq_block_past ?_ | with_reducible refine sq_round_ret ?_ | with_reducible refine sq_round_exit ?_ | fail))
      all_goals (first | refine sg_take 3 (by repeat' (first | with_reducible exact calm_post | with_reducible refine Calm.then ?_ | with_reducible refine Calm.block ?_ | with_reducible refine Calm.round ?_ | with_reducible refine Calm.mark ?_)) rfl (by kernel_rfl) (by kernel_rfl) (by kernel_rfl) ?_)
      all_goals (first | refine sg_take 4 (by repeat' (first | with_reducible exact calm_post | with_reducible refine Calm.then ?_ | with_reducible refine Calm.block ?_ | with_reducible refine Calm.round ?_ | with_reducible refine Calm.mark ?_)) rfl (by kernel_rfl) (by kernel_rfl) (by kernel_rfl) ?_)
      all_goals (first | (first | refine sg_skip 5 (by repeat' (first | with_reducible exact calm_post | with_reducible refine Calm.then ?_ | with_reducible refine Calm.block ?_ | with_reducible refine Calm.round ?_ | with_reducible refine Calm.mark ?_)) rfl (by kernel_rfl) (by kernel_rfl) (by kernel_rfl) ?_ | refine sg_take_g 5 (by repeat' (first | with_reducible exact calm_post | with_reducible refine Calm.then ?_ | with_reducible refine Calm.block ?_ | with_reducible refine Calm.round ?_ | with_reducible refine Calm.mark ?_)) rfl (by kernel_rfl) (by kernel_rfl) (by kernel_rfl) ?_) | ((refine sg_split 30 (fun h => ?_) (fun h => ?_)) <;> (try (exfalso; first | contradiction | omega | exact h Iff.rfl)) <;> (first | refine sg_skip 5 (by repeat' (first | with_reducible exact calm_post | with_reducible refine Calm.then ?_ | with_reducible refine Calm.block ?_ | with_reducible refine Calm.round ?_ | with_reducible refine Calm.mark ?_)) rfl (by kernel_rfl) (by kernel_rfl) (by kernel_rfl) ?_ | refine sg_take_g 5 (by repeat' (first | with_reducible exact calm_post | with_reducible refine Calm.then ?_ | with_reducible refine Calm.block ?_ | with_reducible refine Calm.round ?_ | with_reducible refine Calm.mark ?_)) rfl (by kernel_rfl) (by kernel_rfl) (by kernel_rfl) ?_)))
      all_goals (first | (first | refine sg_skip 7 (by repeat' (first | with_reducible exact calm_post | with_reducible refine Calm.then ?_ | with_reducible refine Calm.block ?_ | with_reducible refine Calm.round ?_ | with_reducible refine Calm.mark ?_)) rfl (by kernel_rfl) (by kernel_rfl) (by kernel_rfl) ?_ | refine sg_take_g 7 (by repeat' (first | with_reducible exact calm_post | with_reducible refine Calm.then ?_ | with_reducible refine Calm.block ?_ | with_reducible refine Calm.round ?_ | with_reducible refine Calm.mark ?_)) rfl (by kernel_rfl) (by kernel_rfl) (by kernel_rfl) ?_) | ((refine sg_split 30 (fun h => ?_) (fun h => ?_)) <;> (try (exfalso; first | contradiction | omega | exact h Iff.rfl)) <;> (first | refine sg_skip 7 (by repeat' (first | with_reducible exact calm_post | with_reducible refine Calm.then ?_ | with_reducible refine Calm.block ?_ | with_reducible refine Calm.round ?_ | with_reducible refine Calm.mark ?_)) rfl (by kernel_rfl) (by kernel_rfl) (by kernel_rfl) ?_ | refine sg_take_g 7 (by repeat' (first | with_reducible exact calm_post | with_reducible refine Calm.then ?_ | with_reducible refine Calm.block ?_ | with_reducible refine Calm.round ?_ | with_reducible refine Calm.mark ?_)) rfl (by kernel_rfl) (by kernel_rfl) (by kernel_rfl) ?_)))
      all_goals (first | (first | refine sg_skip 8 (by repeat' (first | with_reducible exact calm_post | with_reducible refine Calm.then ?_ | with_reducible refine Calm.block ?_ | with_reducible refine Calm.round ?_ | with_reducible refine Calm.mark ?_)) rfl (by kernel_rfl) (by kernel_rfl) (by kernel_rfl) ?_ | refine sg_take_g_as 8 (by repeat' (first | with_reducible exact calm_post | with_reducible refine Calm.then ?_ | with_reducible refine Calm.block ?_ | with_reducible refine Calm.round ?_ | with_reducible refine Calm.mark ?_)) rfl (by kernel_rfl) (by kernel_rfl) (by kernel_rfl) (by rw [IntWalk.i64_in _ (by omega)]) ?_ | refine sg_take_g 8 (by repeat' (first | with_reducible exact calm_post | with_reducible refine Calm.then ?_ | with_reducible refine Calm.block ?_ | with_reducible refine Calm.round ?_ | with_reducible refine Calm.mark ?_)) rfl (by kernel_rfl) (by kernel_rfl) (by kernel_rfl) ?_) | ((refine sg_split 30 (fun h => ?_) (fun h => ?_)) <;> (try (exfalso; first | contradiction | omega | exact h Iff.rfl)) <;> (first | refine sg_skip 8 (by repeat' (first | with_reducible exact calm_post | with_reducible refine Calm.then ?_ | with_reducible refine Calm.block ?_ | with_reducible refine Calm.round ?_ | with_reducible refine Calm.mark ?_)) rfl (by kernel_rfl) (by kernel_rfl) (by kernel_rfl) ?_ | refine sg_take_g_as 8 (by repeat' (first | with_reducible exact calm_post | with_reducible refine Calm.then ?_ | with_reducible refine Calm.block ?_ | with_reducible refine Calm.round ?_ | with_reducible refine Calm.mark ?_)) rfl (by kernel_rfl) (by kernel_rfl) (by kernel_rfl) (by rw [IntWalk.i64_in _ (by omega)]) ?_ | refine sg_take_g 8 (by repeat' (first | with_reducible exact calm_post | with_reducible refine Calm.then ?_ | with_reducible refine Calm.block ?_ | with_reducible refine Calm.round ?_ | with_reducible refine Calm.mark ?_)) rfl (by kernel_rfl) (by kernel_rfl) (by kernel_rfl) ?_)))
      all_goals (first | (first | refine sg_skip 9 (by repeat' (first | with_reducible exact calm_post | with_reducible refine Calm.then ?_ | with_reducible refine Calm.block ?_ | with_reducible refine Calm.round ?_ | with_reducible refine Calm.mark ?_)) rfl (by kernel_rfl) (by kernel_rfl) (by kernel_rfl) ?_ | refine sg_take_g 9 (by repeat' (first | with_reducible exact calm_post | with_reducible refine Calm.then ?_ | with_reducible refine Calm.block ?_ | with_reducible refine Calm.round ?_ | with_reducible refine Calm.mark ?_)) rfl (by kernel_rfl) (by kernel_rfl) (by kernel_rfl) ?_) | ((refine sg_split 30 (fun h => ?_) (fun h => ?_)) <;> (try (exfalso; first | contradiction | omega | exact h Iff.rfl)) <;> (first | refine sg_skip 9 (by repeat' (first | with_reducible exact calm_post | with_reducible refine Calm.then ?_ | with_reducible refine Calm.block ?_ | with_reducible refine Calm.round ?_ | with_reducible refine Calm.mark ?_)) rfl (by kernel_rfl) (by kernel_rfl) (by kernel_rfl) ?_ | refine sg_take_g 9 (by repeat' (first | with_reducible exact calm_post | with_reducible refine Calm.then ?_ | with_reducible refine Calm.block ?_ | with_reducible refine Calm.round ?_ | with_reducible refine Calm.mark ?_)) rfl (by kernel_rfl) (by kernel_rfl) (by kernel_rfl) ?_)))
      all_goals (first | (first | refine sg_skip 10 (by repeat' (first | with_reducible exact calm_post | with_reducible refine Calm.then ?_ | with_reducible refine Calm.block ?_ | with_reducible refine Calm.round ?_ | with_reducible refine Calm.mark ?_)) rfl (by kernel_rfl) (by kernel_rfl) (by kernel_rfl) ?_ | refine sg_take_g_as 10 (by repeat' (first | with_reducible exact calm_post | with_reducible refine Calm.then ?_ | with_reducible refine Calm.block ?_ | with_reducible refine Calm.round ?_ | with_reducible refine Calm.mark ?_)) rfl (by kernel_rfl) (by kernel_rfl) (by kernel_rfl) (by rw [IntWalk.i64_in _ (by omega)]) ?_ | refine sg_take_g 10 (by repeat' (first | with_reducible exact calm_post | with_reducible refine Calm.then ?_ | with_reducible refine Calm.block ?_ | with_reducible refine Calm.round ?_ | with_reducible refine Calm.mark ?_)) rfl (by kernel_rfl) (by kernel_rfl) (by kernel_rfl) ?_) | ((refine sg_split 30 (fun h => ?_) (fun h => ?_)) <;> (try (exfalso; first | contradiction | omega | exact h Iff.rfl)) <;> (first | refine sg_skip 10 (by repeat' (first | with_reducible exact calm_post | with_reducible refine Calm.then ?_ | with_reducible refine Calm.block ?_ | with_reducible refine Calm.round ?_ | with_reducible refine Calm.mark ?_)) rfl (by kernel_rfl) (by kernel_rfl) (by kernel_rfl) ?_ | refine sg_take_g_as 10 (by repeat' (first | with_reducible exact calm_post | with_reducible refine Calm.then ?_ | with_reducible refine Calm.block ?_ | with_reducible refine Calm.round ?_ | with_reducible refine Calm.mark ?_)) rfl (by kernel_rfl) (by kernel_rfl) (by kernel_rfl) (by rw [IntWalk.i64_in _ (by omega)]) ?_ | refine sg_take_g 10 (by repeat' (first | with_reducible exact calm_post | with_reducible refine Calm.then ?_ | with_reducible refine Calm.block ?_ | with_reducible refine Calm.round ?_ | with_reducible refine Calm.mark ?_)) rfl (by kernel_rfl) (by kernel_rfl) (by kernel_rfl) ?_)))
      all_goals (refine sg_one 6 rfl (by kernel_rfl) rfl ?_)
      all_goals (repeat' (first | with_reducible refine sw_op ?_ | with_reducible refine sw_op_ ?_ | ((with_reducible refine sw_call (f18_ok p s) ?_); rintro _ _ ⟨rfl, rfl⟩) | ((with_reducible refine sw_call (f19_ok p s) ?_); rintro _ _ ⟨rfl, rfl⟩) | with_reducible refine sg_back ?_ | with_reducible refine sw_nil ?_ | with_reducible refine sq_then ?_ | with_reducible refine sc_seq ?_ | with_reducible refine sc_region ?_ | with_reducible refine sw_guard_skip ?_ | with_reducible refine sw_guard_skip_ ?_ | with_reducible refine sw_guard_run ?_ | with_reducible refine sc_cond_true ?_ | with_reducible refine sc_cond_false ?_ | with_reducible refine sc_ret ?_ | with_reducible refine sq_then_ret ?_ | with_reducible refine sc_skip ?_ | with_reducible refine sc_block ?_ | with_reducible refine sq_block ?_ | with_reducible refine sq_block_ret ?_ | with_reducible refine sc_exit ?_ | with_reducible refine sq_then_exit ?_ | with_reducible refine sq_block_exit ?_ | with_reducible refine sq_block_past ?_ | with_reducible refine sq_round_ret ?_ | with_reducible refine sq_round_exit ?_ | fail))
      all_goals (first | (first | refine sg_skip 11 (by repeat' (first | with_reducible exact calm_post | with_reducible refine Calm.then ?_ | with_reducible refine Calm.block ?_ | with_reducible refine Calm.round ?_ | with_reducible refine Calm.mark ?_)) rfl (by kernel_rfl) (by kernel_rfl) (by kernel_rfl) ?_ | refine sg_take_g 11 (by repeat' (first | with_reducible exact calm_post | with_reducible refine Calm.then ?_ | with_reducible refine Calm.block ?_ | with_reducible refine Calm.round ?_ | with_reducible refine Calm.mark ?_)) rfl (by kernel_rfl) (by kernel_rfl) (by kernel_rfl) ?_) | ((refine sg_split 30 (fun h => ?_) (fun h => ?_)) <;> (try (exfalso; first | contradiction | omega | exact h Iff.rfl)) <;> (first | refine sg_skip 11 (by repeat' (first | with_reducible exact calm_post | with_reducible refine Calm.then ?_ | with_reducible refine Calm.block ?_ | with_reducible refine Calm.round ?_ | with_reducible refine Calm.mark ?_)) rfl (by kernel_rfl) (by kernel_rfl) (by kernel_rfl) ?_ | refine sg_take_g 11 (by repeat' (first | with_reducible exact calm_post | with_reducible refine Calm.then ?_ | with_reducible refine Calm.block ?_ | with_reducible refine Calm.round ?_ | with_reducible refine Calm.mark ?_)) rfl (by kernel_rfl) (by kernel_rfl) (by kernel_rfl) ?_)))
      all_goals (first | refine sg_take 12 (by repeat' (first | with_reducible exact calm_post | with_reducible refine Calm.then ?_ | with_reducible refine Calm.block ?_ | with_reducible refine Calm.round ?_ | with_reducible refine Calm.mark ?_)) rfl (by kernel_rfl) (by kernel_rfl) (by kernel_rfl) ?_ | ((refine sg_split 30 (fun h => ?_) (fun h => ?_)) <;> (try (exfalso; first | contradiction | omega | exact h Iff.rfl)) <;> refine sg_take 12 (by repeat' (first | with_reducible exact calm_post | with_reducible refine Calm.then ?_ | with_reducible refine Calm.block ?_ | with_reducible refine Calm.round ?_ | with_reducible refine Calm.mark ?_)) rfl (by kernel_rfl) (by kernel_rfl) (by kernel_rfl) ?_))
      all_goals (first | refine sg_take 13 (by repeat' (first | with_reducible exact calm_post | with_reducible refine Calm.then ?_ | with_reducible refine Calm.block ?_ | with_reducible refine Calm.round ?_ | with_reducible refine Calm.mark ?_)) rfl (by kernel_rfl) (by kernel_rfl) (by kernel_rfl) ?_)
      all_goals (refine sg_done (by kernel_rfl) rfl ?_)
      repeat' (first | with_reducible refine sw_op ?_ | with_reducible refine sw_op_ ?_ | with_reducible refine sw_nil ?_ | with_reducible refine sq_then ?_ | with_reducible refine sc_seq ?_ | with_reducible refine sc_region ?_ | with_reducible refine sw_guard_skip ?_ | with_reducible refine sw_guard_skip_ ?_ | with_reducible refine sw_guard_run ?_ | with_reducible refine sc_cond_true ?_ | with_reducible refine sc_cond_false ?_ | with_reducible refine sc_ret ?_ | with_reducible refine sq_then_ret ?_ | with_reducible refine sc_skip ?_ | with_reducible refine sc_block ?_ | with_reducible refine sq_block ?_ | with_reducible refine sq_block_ret ?_ | with_reducible refine sc_exit ?_ | with_reducible refine sq_then_exit ?_ | with_reducible refine sq_block_exit ?_ | with_reducible refine sq_block_past ?_ | with_reducible refine sq_round_ret ?_ | with_reducible refine sq_round_exit ?_ | fail)
      refine sq_ret1 Try.results17 ⟨_, ⟨by simp; omega, rfl⟩, ?_⟩
      repeat' (first | with_reducible exact Ent.refl _ | with_reducible refine Ent.take_eq ?_ ?_ | rfl | with_reducible refine Ent.trans (Ent.drop _ _) ?_)

/-- a slice of bytes that came in -/
def BytesAt (W : World) (a : Option Addr) (os : List Int) : Prop :=
  ∀ k (h : k < os.length), (∃ b off, a = some ⟨b, off, none⟩ ∧ W.cell? ⟨b, off + k, none⟩ = some (.int .u8 os[k])) ∧ 0 ≤ os[k] ∧ os[k] ≤ 255

/-- Publish, with what is pending in view -/
theorem f20_pend (p : Nat) (s : Or) (ts : Int) (pend : Int → Bool) (hp : PendOf s pend) : Spec Try.prog 20 [.pointer (some ⟨p, 0, none⟩), .int .i64 ts] [p] [OR p s]
    fun F v Rs' => ∃ s' x, ((x = 0 ↔ pend ts = true) ∧ PendOf s' (fun j => j != ts && pend j) ∧ s'.last = s.last ∧ s.pub ≤ s'.pub) ∧ v = .int .i64 x ∧ Rs' = (p, OR p s') :: F :=
  (f20_any p s ts).mono fun F v Rs' ⟨s', x, h, hv, hr⟩ => ⟨s', x, by
    rcases h with ⟨hb, rfl, rfl⟩ | ⟨h1, h2, h3, rfl, hq⟩
    · obtain ⟨h4, h5⟩ := pend_bad hp hb
      exact ⟨by simp [h4], h5, rfl, Int.le_refl _⟩
    · exact ⟨by simp [pend_good hp h1 h2 h3], pend_pub hp hq, hq.last, hq.le⟩, hv, hr⟩

/-- what the three loops keep -/
structure OrdJ (x n : Int) (s : Or) (pend : Int → Bool) : Prop where
  last : s.last = x + n
  pub : x ≤ s.pub
  pend : PendOf s pend

theorem f3_ok (W : World) (x many : Int) (a : Option Addr) (os : List Int) (c : Nat) (h0 : 0 ≤ x ∧ x ≤ 4294967295) (hm : 0 ≤ many ∧ many ≤ 255) (hos : BytesAt W a os) (hlen : os.length ≤ 9223372036854775807) :
    Spec Try.prog 3 [.int .u32 x, .int .u8 many, .slice a os.length c] [0] [ro W] fun F v Rs' => v = .bool true ∧ ∃ G, Rs' = (0, ro W) :: G := by
  refine spec_of Try.func3 rfl Try.ntmps3 rfl ?_
  intro w0 F
  repeat' (first | with_reducible refine sw_op ?_ | with_reducible refine sw_op_ ?_ | with_reducible refine sw_nil ?_ | with_reducible refine sq_then ?_ | with_reducible refine sc_seq ?_ | with_reducible refine sc_region ?_ | with_reducible refine sw_guard_skip ?_ | with_reducible refine sw_guard_skip_ ?_ | with_reducible refine sw_guard_run ?_ | with_reducible refine sc_cond_true ?_ | with_reducible refine sc_cond_false ?_ | with_reducible refine sc_ret ?_ | with_reducible refine sq_then_ret ?_ | with_reducible refine sc_skip ?_ | with_reducible refine sc_block ?_ | with_reducible refine sq_block ?_ | with_reducible refine sq_block_ret ?_ | with_reducible refine sc_exit ?_ | with_reducible refine sq_then_exit ?_ | with_reducible refine sq_block_exit ?_ | with_reducible refine sq_block_past ?_ | with_reducible refine sq_round_ret ?_ | with_reducible refine sq_round_exit ?_ | fail)
  refine sw_box fun bl => ?_
  repeat' (first | with_reducible refine sw_conv_i64 (by omega) ?_ | with_reducible refine sw_op ?_ | with_reducible refine sw_op_ ?_ | ((with_reducible refine sw_call (f14_ok x (by omega) (by omega)) ?_); rintro _ _ ⟨p, rfl, rfl⟩) | with_reducible refine sw_nil ?_ | with_reducible refine sq_then ?_ | with_reducible refine sc_seq ?_ | with_reducible refine sc_region ?_ | with_reducible refine sw_guard_skip ?_ | with_reducible refine sw_guard_skip_ ?_ | with_reducible refine sw_guard_run ?_ | with_reducible refine sc_cond_true ?_ | with_reducible refine sc_cond_false ?_ | with_reducible refine sc_ret ?_ | with_reducible refine sq_then_ret ?_ | with_reducible refine sc_skip ?_ | with_reducible refine sc_block ?_ | with_reducible refine sq_block ?_ | with_reducible refine sq_block_ret ?_ | with_reducible refine sc_exit ?_ | with_reducible refine sq_then_exit ?_ | with_reducible refine sq_block_exit ?_ | with_reducible refine sq_block_past ?_ | with_reducible refine sq_round_ret ?_ | with_reducible refine sq_round_exit ?_ | fail)
  refine sw_alloc fun bp => ?_
  repeat' (first | with_reducible refine sw_rem_nn (by omega) ?_ | with_reducible refine sw_conv_i64 (by omega) ?_ | with_reducible refine sw_i64 (by omega) ?_ | with_reducible refine sw_op ?_ | with_reducible refine sw_op_ ?_ | with_reducible refine sw_store ?_ | ((with_reducible refine sw_call f15_ok ?_); rintro _ _ ⟨rfl, rfl⟩) | with_reducible refine sw_nil ?_ | with_reducible refine sq_then ?_ | with_reducible refine sc_seq ?_ | with_reducible refine sc_region ?_ | with_reducible refine sw_guard_skip ?_ | with_reducible refine sw_guard_skip_ ?_ | with_reducible refine sw_guard_run ?_ | with_reducible refine sc_cond_true ?_ | with_reducible refine sc_cond_false ?_ | with_reducible refine sc_ret ?_ | with_reducible refine sq_then_ret ?_ | with_reducible refine sc_skip ?_ | with_reducible refine sc_block ?_ | with_reducible refine sq_block ?_ | with_reducible refine sq_block_ret ?_ | with_reducible refine sc_exit ?_ | with_reducible refine sq_then_exit ?_ | with_reducible refine sq_block_exit ?_ | with_reducible refine sq_block_past ?_ | with_reducible refine sq_round_ret ?_ | with_reducible refine sq_round_exit ?_ | (with_reducible refine sc_cond (fun h => ?_) (fun h => ?_)) <;> (try (exfalso; first | contradiction | omega | exact h Iff.rfl)) | (with_reducible refine sw_guard_split (fun h => ?_) (fun h => ?_)) <;> (try (exfalso; first | contradiction | omega | exact h Iff.rfl)) | (with_reducible refine sw_pick (fun h => ?_) (fun h => ?_)) <;> (try (exfalso; first | contradiction | omega | exact h Iff.rfl)) | fail)
  refine sw_alloc fun bn => ?_
  repeat' (first | with_reducible refine sw_op ?_ | with_reducible refine sw_op_ ?_ | with_reducible refine sw_store ?_ | with_reducible refine sw_nil ?_ | with_reducible refine sq_then ?_ | with_reducible refine sc_seq ?_ | with_reducible refine sc_region ?_ | with_reducible refine sw_guard_skip ?_ | with_reducible refine sw_guard_skip_ ?_ | with_reducible refine sw_guard_run ?_ | with_reducible refine sc_cond_true ?_ | with_reducible refine sc_cond_false ?_ | with_reducible refine sc_ret ?_ | with_reducible refine sq_then_ret ?_ | with_reducible refine sc_skip ?_ | with_reducible refine sc_block ?_ | with_reducible refine sq_block ?_ | with_reducible refine sq_block_ret ?_ | with_reducible refine sc_exit ?_ | with_reducible refine sq_then_exit ?_ | with_reducible refine sq_block_exit ?_ | with_reducible refine sq_block_past ?_ | with_reducible refine sq_round_ret ?_ | with_reducible refine sq_round_exit ?_ | fail)
  refine sw_makeMap (k := .i64) fun m => ?_
  repeat' (first | with_reducible refine sw_op ?_ | with_reducible refine sw_op_ ?_ | with_reducible refine sw_nil ?_ | with_reducible refine sq_then ?_ | with_reducible refine sc_seq ?_ | with_reducible refine sc_region ?_ | with_reducible refine sw_guard_skip ?_ | with_reducible refine sw_guard_skip_ ?_ | with_reducible refine sw_guard_run ?_ | with_reducible refine sc_cond_true ?_ | with_reducible refine sc_cond_false ?_ | with_reducible refine sc_ret ?_ | with_reducible refine sq_then_ret ?_ | with_reducible refine sc_skip ?_ | with_reducible refine sc_block ?_ | with_reducible refine sq_block ?_ | with_reducible refine sq_block_ret ?_ | with_reducible refine sc_exit ?_ | with_reducible refine sq_then_exit ?_ | with_reducible refine sq_block_exit ?_ | with_reducible refine sq_block_past ?_ | with_reducible refine sq_round_ret ?_ | with_reducible refine sq_round_exit ?_ | fail)
  refine sw_alloc fun bm => ?_
  repeat' (first | with_reducible refine sw_op ?_ | with_reducible refine sw_op_ ?_ | with_reducible refine sw_store ?_ | with_reducible refine sw_nil ?_ | with_reducible refine sq_then ?_ | with_reducible refine sc_seq ?_ | with_reducible refine sc_region ?_ | with_reducible refine sw_guard_skip ?_ | with_reducible refine sw_guard_skip_ ?_ | with_reducible refine sw_guard_run ?_ | with_reducible refine sc_cond_true ?_ | with_reducible refine sc_cond_false ?_ | with_reducible refine sc_ret ?_ | with_reducible refine sq_then_ret ?_ | with_reducible refine sc_skip ?_ | with_reducible refine sc_block ?_ | with_reducible refine sq_block ?_ | with_reducible refine sq_block_ret ?_ | with_reducible refine sc_exit ?_ | with_reducible refine sq_then_exit ?_ | with_reducible refine sq_block_exit ?_ | with_reducible refine sq_block_past ?_ | with_reducible refine sq_round_ret ?_ | with_reducible refine sq_round_exit ?_ | fail)
  rw [bmap_nil]
  generalize hn : many % 30 + 1 = n
  have hn1 : 1 ≤ n ∧ n ≤ 30 := by omega
  refine sc_keep [0, 2, 3, 7, 9, 10, 40, 41] fun e0 => ?_
  simp only [List.cons_append, List.nil_append]
  refine sc_loop (α := { y : Int × Or × (Int → Bool) // (0 ≤ y.1 ∧ y.1 ≤ n) ∧ OrdJ x y.1 y.2.1 y.2.2 ∧ y.2.1.pub = x }) (fun y => [(0, .int .u32 x), (2, .slice a os.length c), (3, .pointer (some ⟨bl, 0, none⟩)), (7, .pointer (some ⟨bp, 0, none⟩)), (9, .pointer (some ⟨bn, 0, none⟩)), (10, .pointer (some ⟨bm, 0, none⟩)), (40, .int .i64 n), (41, .int .i64 y.1.1)])
    (fun y => (bl, pts bl (ubox x)) :: (bn, pts bn (ibox n)) :: (bm, pts bm (mbox m)) :: (bp, pts bp (pbox p)) :: (m, MapI .i64 m (bmap y.1.2.2)) :: (p, OR p y.1.2.1) :: (0, ro W) :: F) (fun y => (n - y.1.1).toNat)
    ⟨(0, Or.new x, fun _ => false), ⟨by simp, by simp; omega⟩, ⟨by simp [Or.new], by simp [Or.new], pend_new x⟩, rfl⟩ ?_ ?_ ?_
  · exact says_cons rfl (says_cons rfl (says_cons rfl (says_cons rfl (says_cons rfl (says_cons rfl (says_cons rfl (says_cons rfl says_nil)))))))
  · repeat' (first | with_reducible exact Ent.refl _ | with_reducible refine Ent.take_eq ?_ ?_ | rfl | with_reducible refine Ent.trans (Ent.drop _ _) ?_)
  · rintro ⟨⟨i, s, pend⟩, ⟨hi0, hi1⟩, hJ, hpub⟩ e
    simp only at hi0 hi1 hJ hpub
    simp only [List.cons_append, List.nil_append]
    have hl := hJ.last
    refine OR.scwf (p := p) (s := s) fun hwn => ?_
    repeat' (first | with_reducible refine sw_conv_i64 (by omega) ?_ | with_reducible refine sw_i64 (by omega) ?_ | with_reducible refine sw_op ?_ | with_reducible refine sw_op_ ?_ | ((with_reducible refine sw_call (f16_ok p s (by omega)) ?_); rintro _ _ ⟨rfl, rfl⟩) | with_reducible refine sw_mapUpdate ?_ | with_reducible refine sw_nil ?_ | with_reducible refine sq_then ?_ | with_reducible refine sc_seq ?_ | with_reducible refine sc_region ?_ | with_reducible refine sw_guard_skip ?_ | with_reducible refine sw_guard_skip_ ?_ | with_reducible refine sw_guard_run ?_ | with_reducible refine sc_cond_true ?_ | with_reducible refine sc_cond_false ?_ | with_reducible refine sc_ret ?_ | with_reducible refine sq_then_ret ?_ | with_reducible refine sc_skip ?_ | with_reducible refine sc_block ?_ | with_reducible refine sq_block ?_ | with_reducible refine sq_block_ret ?_ | with_reducible refine sc_exit ?_ | with_reducible refine sq_then_exit ?_ | with_reducible refine sq_block_exit ?_ | with_reducible refine sq_block_past ?_ | with_reducible refine sq_round_ret ?_ | with_reducible refine sq_round_exit ?_ | (with_reducible refine sc_cond (fun h => ?_) (fun h => ?_)) <;> (try (exfalso; first | contradiction | omega | exact h Iff.rfl)) | (with_reducible refine sw_guard_split (fun h => ?_) (fun h => ?_)) <;> (try (exfalso; first | contradiction | omega | exact h Iff.rfl)) | (with_reducible refine sw_pick (fun h => ?_) (fun h => ?_)) <;> (try (exfalso; first | contradiction | omega | exact h Iff.rfl)) | fail)
    focus
      rw [bmap_put]
      refine sq_round ⟨(i + 1, s.next, fun j => j == s.last + 1 || pend j), ⟨by show 0 ≤ i + 1; omega, by show i + 1 ≤ n; omega⟩, ⟨by show s.last + 1 = x + (i + 1); omega, by show x ≤ s.pub; omega, pend_next hwn hJ.pend⟩, hpub⟩ ?_ ?_ ?_
      · show (n - (i + 1)).toNat < (n - i).toNat
        omega
      · exact says_cons rfl (says_cons rfl (says_cons rfl (says_cons rfl (says_cons rfl (says_cons rfl (says_cons rfl (says_cons rfl says_nil)))))))
      · repeat' (first | with_reducible exact Ent.refl _ | with_reducible refine Ent.take_eq ?_ ?_ | rfl | with_reducible refine Ent.trans (Ent.drop _ _) ?_)
    have hin : i = n := by omega
    subst hin
    refine sc_keep [0, 2, 3, 7, 9, 10, 14, 64, 65, 66] fun e1 => ?_
    simp only [List.cons_append, List.nil_append]
    refine sc_loop (α := { y : Nat × Or × (Int → Bool) // y.1 ≤ os.length ∧ OrdJ x i y.2.1 y.2.2 }) (fun y => [(3, .pointer (some ⟨bl, 0, none⟩)), (7, .pointer (some ⟨bp, 0, none⟩)), (9, .pointer (some ⟨bn, 0, none⟩)), (10, .pointer (some ⟨bm, 0, none⟩)), (14, .func (.func 17) #[] #[.pointer (some ⟨bl, 0, none⟩), .pointer (some ⟨bn, 0, none⟩), .pointer (some ⟨bm, 0, none⟩), .pointer (some ⟨bp, 0, none⟩)]), (64, .slice a os.length c), (65, .int .i64 os.length), (66, .int .i64 y.1.1)])
      (fun y => (bl, pts bl (ubox x)) :: (bn, pts bn (ibox i)) :: (bm, pts bm (mbox m)) :: (bp, pts bp (pbox p)) :: (m, MapI .i64 m (bmap y.1.2.2)) :: (p, OR p y.1.2.1) :: (0, ro W) :: F) (fun y => os.length - y.1.1)
      ⟨(0, s, pend), Nat.zero_le _, hJ⟩ ?_ ?_ ?_
    · exact says_cons rfl (says_cons rfl (says_cons rfl (says_cons rfl (says_cons rfl (says_cons rfl (says_cons rfl (says_cons rfl says_nil)))))))
    · repeat' (first | with_reducible exact Ent.refl _ | with_reducible refine Ent.take_eq ?_ ?_ | rfl | with_reducible refine Ent.trans (Ent.drop _ _) ?_)
    clear hpub hJ hl hwn
    clear s pend
    rintro ⟨⟨k, s, pend⟩, hk, hJ⟩ e
    simp only at hk hJ
    simp only [List.cons_append, List.nil_append]
    have hl := hJ.last
    repeat' (first | with_reducible refine sw_op ?_ | with_reducible refine sw_op_ ?_ | with_reducible refine sw_nil ?_ | with_reducible refine sq_then ?_ | with_reducible refine sc_seq ?_ | with_reducible refine sc_region ?_ | with_reducible refine sw_guard_skip ?_ | with_reducible refine sw_guard_skip_ ?_ | with_reducible refine sw_guard_run ?_ | with_reducible refine sc_cond_true ?_ | with_reducible refine sc_cond_false ?_ | with_reducible refine sc_ret ?_ | with_reducible refine sq_then_ret ?_ | with_reducible refine sc_skip ?_ | with_reducible refine sc_block ?_ | with_reducible refine sq_block ?_ | with_reducible refine sq_block_ret ?_ | with_reducible refine sc_exit ?_ | with_reducible refine sq_then_exit ?_ | with_reducible refine sq_block_exit ?_ | with_reducible refine sq_block_past ?_ | with_reducible refine sq_round_ret ?_ | with_reducible refine sq_round_exit ?_ | (with_reducible refine sc_cond (fun h => ?_) (fun h => ?_)) <;> (try (exfalso; first | contradiction | omega | exact h Iff.rfl)) | (with_reducible refine sw_guard_split (fun h => ?_) (fun h => ?_)) <;> (try (exfalso; first | contradiction | omega | exact h Iff.rfl)) | (with_reducible refine sw_pick (fun h => ?_) (fun h => ?_)) <;> (try (exfalso; first | contradiction | omega | exact h Iff.rfl)) | fail)
    focus
      have hk2 : k < os.length := by omega
      obtain ⟨⟨b, off, rfl, hcell⟩, hb0, hb1⟩ := hos k hk2
      refine sw_index (by omega) ?_
      refine sw_load_ro (W := W) (v := .int .u8 os[k]) (by simpa using hcell) ?_
      repeat' (first | with_reducible refine sw_op ?_ | with_reducible refine sw_op_ ?_ | with_reducible refine sw_nil ?_ | with_reducible refine sq_then ?_ | with_reducible refine sc_seq ?_ | with_reducible refine sc_region ?_ | with_reducible refine sw_guard_skip ?_ | with_reducible refine sw_guard_skip_ ?_ | with_reducible refine sw_guard_run ?_ | with_reducible refine sc_cond_true ?_ | with_reducible refine sc_cond_false ?_ | with_reducible refine sc_ret ?_ | with_reducible refine sq_then_ret ?_ | with_reducible refine sc_skip ?_ | with_reducible refine sc_block ?_ | with_reducible refine sq_block ?_ | with_reducible refine sq_block_ret ?_ | with_reducible refine sc_exit ?_ | with_reducible refine sq_then_exit ?_ | with_reducible refine sq_block_exit ?_ | with_reducible refine sq_block_past ?_ | with_reducible refine sq_round_ret ?_ | with_reducible refine sq_round_exit ?_ | fail)
      clear hcell hos
      generalize os[k] = y at *
      have hr1 := Int.emod_nonneg y (b := i) (by omega)
      have hr2 := Int.emod_lt_of_pos y (b := i) (by omega)
      refine sc_drawG (m := 9) ([(bl, pts bl (ubox x)), (bn, pts bn (ibox i)), (bm, pts bm (mbox m)), (bp, pts bp (pbox p))]) (by kernel_rfl) rfl ?_
      all_goals (first | refine sg_take 0 (by repeat' (first | with_reducible exact calm_post | with_reducible refine Calm.then ?_ | with_reducible refine Calm.block ?_ | with_reducible refine Calm.round ?_ | with_reducible refine Calm.mark ?_)) rfl (by kernel_rfl) (by kernel_rfl) (by kernel_rfl) ?_)
      all_goals (first | refine sg_take_as 1 (by repeat' (first | with_reducible exact calm_post | with_reducible refine Calm.then ?_ | with_reducible refine Calm.block ?_ | with_reducible refine Calm.round ?_ | with_reducible refine Calm.mark ?_)) rfl (by kernel_rfl) (by kernel_rfl) (by kernel_rfl) (by rw [IntWalk.i64_in _ (by omega)]) ?_ | refine sg_take 1 (by repeat' (first | with_reducible exact calm_post | with_reducible refine Calm.then ?_ | with_reducible refine Calm.block ?_ | with_reducible refine Calm.round ?_ | with_reducible refine Calm.mark ?_)) rfl (by kernel_rfl) (by kernel_rfl) (by kernel_rfl) ?_)
      all_goals (first | refine sg_take_as 2 (by repeat' (first | with_reducible exact calm_post | with_reducible refine Calm.then ?_ | with_reducible refine Calm.block ?_ | with_reducible refine Calm.round ?_ | with_reducible refine Calm.mark ?_)) rfl (by kernel_rfl) (by kernel_rfl) (by kernel_rfl) (by rw [IntWalk.i64_in _ (by omega)]) ?_ | refine sg_take 2 (by repeat' (first | with_reducible exact calm_post | with_reducible refine Calm.then ?_ | with_reducible refine Calm.block ?_ | with_reducible refine Calm.round ?_ | with_reducible refine Calm.mark ?_)) rfl (by kernel_rfl) (by kernel_rfl) (by kernel_rfl) ?_)
      all_goals (first | refine sg_take 3 (by repeat' (first | with_reducible exact calm_post | with_reducible refine Calm.then ?_ | with_reducible refine Calm.block ?_ | with_reducible refine Calm.round ?_ | with_reducible refine Calm.mark ?_)) rfl (by kernel_rfl) (by kernel_rfl) (by kernel_rfl) ?_)
      all_goals (first | refine sg_take_as 4 (by repeat' (first | with_reducible exact calm_post | with_reducible refine Calm.then ?_ | with_reducible refine Calm.block ?_ | with_reducible refine Calm.round ?_ | with_reducible refine Calm.mark ?_)) rfl (by kernel_rfl) (by kernel_rfl) (by kernel_rfl) (by rw [IntWalk.i64_in _ (by omega)]) ?_ | refine sg_take 4 (by repeat' (first | with_reducible exact calm_post | with_reducible refine Calm.then ?_ | with_reducible refine Calm.block ?_ | with_reducible refine Calm.round ?_ | with_reducible refine Calm.mark ?_)) rfl (by kernel_rfl) (by kernel_rfl) (by kernel_rfl) ?_)
      all_goals (first | refine sg_take 5 (by repeat' (first | with_reducible exact calm_post | with_reducible refine Calm.then ?_ | with_reducible refine Calm.block ?_ | with_reducible refine Calm.round ?_ | with_reducible refine Calm.mark ?_)) rfl (by kernel_rfl) (by kernel_rfl) (by kernel_rfl) ?_)
      all_goals (first | refine sg_take 6 (by repeat' (first | with_reducible exact calm_post | with_reducible refine Calm.then ?_ | with_reducible refine Calm.block ?_ | with_reducible refine Calm.round ?_ | with_reducible refine Calm.mark ?_)) rfl (by kernel_rfl) (by kernel_rfl) (by kernel_rfl) (h := runop_rem_nn (by omega)) ?_ | refine sg_take 6 (by repeat' (first | with_reducible exact calm_post | with_reducible refine Calm.then ?_ | with_reducible refine Calm.block ?_ | with_reducible refine Calm.round ?_ | with_reducible refine Calm.mark ?_)) rfl (by kernel_rfl) (by kernel_rfl) (by kernel_rfl) ?_)
      all_goals (first | refine sg_take_as 7 (by repeat' (first | with_reducible exact calm_post | with_reducible refine Calm.then ?_ | with_reducible refine Calm.block ?_ | with_reducible refine Calm.round ?_ | with_reducible refine Calm.mark ?_)) rfl (by kernel_rfl) (by kernel_rfl) (by kernel_rfl) (by rw [IntWalk.i64_in _ (by omega)]) ?_ | refine sg_take 7 (by repeat' (first | with_reducible exact calm_post | with_reducible refine Calm.then ?_ | with_reducible refine Calm.block ?_ | with_reducible refine Calm.round ?_ | with_reducible refine Calm.mark ?_)) rfl (by kernel_rfl) (by kernel_rfl) (by kernel_rfl) ?_)
      all_goals (first | refine sg_take 8 (by repeat' (first | with_reducible exact calm_post | with_reducible refine Calm.then ?_ | with_reducible refine Calm.block ?_ | with_reducible refine Calm.round ?_ | with_reducible refine Calm.mark ?_)) rfl (by kernel_rfl) (by kernel_rfl) (by kernel_rfl) ?_)
      all_goals (refine sg_done (by kernel_rfl) rfl ?_)
      generalize x + 1 + y % i = ts
      repeat' (first | with_reducible refine sw_op ?_ | with_reducible refine sw_op_ ?_ | with_reducible refine sw_nil ?_ | with_reducible refine sq_then ?_ | with_reducible refine sc_seq ?_ | with_reducible refine sc_region ?_ | with_reducible refine sw_guard_skip ?_ | with_reducible refine sw_guard_skip_ ?_ | with_reducible refine sw_guard_run ?_ | with_reducible refine sc_cond_true ?_ | with_reducible refine sc_cond_false ?_ | with_reducible refine sc_ret ?_ | with_reducible refine sq_then_ret ?_ | with_reducible refine sc_skip ?_ | with_reducible refine sc_block ?_ | with_reducible refine sq_block ?_ | with_reducible refine sq_block_ret ?_ | with_reducible refine sc_exit ?_ | with_reducible refine sq_then_exit ?_ | with_reducible refine sq_block_exit ?_ | with_reducible refine sq_block_past ?_ | with_reducible refine sq_round_ret ?_ | with_reducible refine sq_round_exit ?_ | fail)
      refine sc_drawG (m := 8) ([(bl, pts bl (ubox x)), (bn, pts bn (ibox i)), (bm, pts bm (mbox m)), (bp, pts bp (pbox p)), (m, MapI .i64 m (bmap pend))]) (by kernel_rfl) rfl ?_
      all_goals (first | refine sg_take 0 (by repeat' (first | with_reducible exact calm_post | with_reducible refine Calm.then ?_ | with_reducible refine Calm.block ?_ | with_reducible refine Calm.round ?_ | with_reducible refine Calm.mark ?_)) rfl (by kernel_rfl) (by kernel_rfl) (by kernel_rfl) ?_)
      all_goals (first | refine sg_take 1 (by repeat' (first | with_reducible exact calm_post | with_reducible refine Calm.then ?_ | with_reducible refine Calm.block ?_ | with_reducible refine Calm.round ?_ | with_reducible refine Calm.mark ?_)) rfl (by kernel_rfl) (by kernel_rfl) (by kernel_rfl) ?_)
      all_goals (first | refine sg_take 4 (by repeat' (first | with_reducible exact calm_post | with_reducible refine Calm.then ?_ | with_reducible refine Calm.block ?_ | with_reducible refine Calm.round ?_ | with_reducible refine Calm.mark ?_)) rfl (by kernel_rfl) (by kernel_rfl) (by kernel_rfl) ?_)
      all_goals (first | refine sg_take 5 (by repeat' (first | with_reducible exact calm_post | with_reducible refine Calm.then ?_ | with_reducible refine Calm.block ?_ | with_reducible refine Calm.round ?_ | with_reducible refine Calm.mark ?_)) rfl (by kernel_rfl) (by kernel_rfl) (by kernel_rfl) ?_)
      all_goals (first | refine sg_take 6 (by repeat' (first | with_reducible exact calm_post | with_reducible refine Calm.then ?_ | with_reducible refine Calm.block ?_ | with_reducible refine Calm.round ?_ | with_reducible refine Calm.mark ?_)) rfl (by kernel_rfl) (by kernel_rfl) (by kernel_rfl) ?_)
      all_goals (refine sg_one 2 rfl (by kernel_rfl) rfl ?_)
      all_goals (repeat' (first | with_reducible refine sw_op ?_ | with_reducible refine sw_op_ ?_ | ((with_reducible refine sw_call (f20_pend p s ts pend hJ.pend) ?_); rintro _ _ ⟨s', v, ⟨hv, hp', hl', hb'⟩, rfl, rfl⟩) | with_reducible refine sg_back ?_ | with_reducible refine sw_nil ?_ | with_reducible refine sq_then ?_ | with_reducible refine sc_seq ?_ | with_reducible refine sc_region ?_ | with_reducible refine sw_guard_skip ?_ | with_reducible refine sw_guard_skip_ ?_ | with_reducible refine sw_guard_run ?_ | with_reducible refine sc_cond_true ?_ | with_reducible refine sc_cond_false ?_ | with_reducible refine sc_ret ?_ | with_reducible refine sq_then_ret ?_ | with_reducible refine sc_skip ?_ | with_reducible refine sc_block ?_ | with_reducible refine sq_block ?_ | with_reducible refine sq_block_ret ?_ | with_reducible refine sc_exit ?_ | with_reducible refine sq_then_exit ?_ | with_reducible refine sq_block_exit ?_ | with_reducible refine sq_block_past ?_ | with_reducible refine sq_round_ret ?_ | with_reducible refine sq_round_exit ?_ | fail))
      all_goals (first | refine sg_take 3 (by repeat' (first | with_reducible exact calm_post | with_reducible refine Calm.then ?_ | with_reducible refine Calm.block ?_ | with_reducible refine Calm.round ?_ | with_reducible refine Calm.mark ?_)) rfl (by kernel_rfl) (by kernel_rfl) (by kernel_rfl) ?_)
      all_goals (first | refine sg_take 7 (by repeat' (first | with_reducible exact calm_post | with_reducible refine Calm.then ?_ | with_reducible refine Calm.block ?_ | with_reducible refine Calm.round ?_ | with_reducible refine Calm.mark ?_)) rfl (by kernel_rfl) (by kernel_rfl) (by kernel_rfl) ?_)
      all_goals (refine sg_done (by kernel_rfl) rfl ?_)
      have hb2 := hJ.pub
      refine sc_keep [3, 7, 9, 10, 14, 64, 65, 66, 17, 85] fun e2 => ?_
      simp only [List.cons_append, List.nil_append]
      repeat' (first | with_reducible refine sw_op ?_ | with_reducible refine sw_op_ ?_ | with_reducible refine sw_delete ?_ | with_reducible refine sw_nil ?_ | with_reducible refine sq_then ?_ | with_reducible refine sc_seq ?_ | with_reducible refine sc_region ?_ | with_reducible refine sw_guard_skip ?_ | with_reducible refine sw_guard_skip_ ?_ | with_reducible refine sw_guard_run ?_ | with_reducible refine sc_cond_true ?_ | with_reducible refine sc_cond_false ?_ | with_reducible refine sc_ret ?_ | with_reducible refine sq_then_ret ?_ | with_reducible refine sc_skip ?_ | with_reducible refine sc_block ?_ | with_reducible refine sq_block ?_ | with_reducible refine sq_block_ret ?_ | with_reducible refine sc_exit ?_ | with_reducible refine sq_then_exit ?_ | with_reducible refine sq_block_exit ?_ | with_reducible refine sq_block_past ?_ | with_reducible refine sq_round_ret ?_ | with_reducible refine sq_round_exit ?_ | (with_reducible refine sc_cond (fun h => ?_) (fun h => ?_)) <;> (try (exfalso; first | contradiction | omega | exact h Iff.rfl)) | (with_reducible refine sw_guard_split (fun h => ?_) (fun h => ?_)) <;> (try (exfalso; first | contradiction | omega | exact h Iff.rfl)) | (with_reducible refine sw_pick (fun h => ?_) (fun h => ?_)) <;> (try (exfalso; first | contradiction | omega | exact h Iff.rfl)) | fail)
      rw [bmap_del]
      repeat' (first | with_reducible refine sw_i64 (by omega) ?_ | with_reducible refine sw_op ?_ | with_reducible refine sw_op_ ?_ | ((with_reducible refine sw_callv (fs := []) (vs := []) (cs := [.pointer (some ⟨bl, 0, none⟩), .pointer (some ⟨bn, 0, none⟩), .pointer (some ⟨bm, 0, none⟩), .pointer (some ⟨bp, 0, none⟩)]) (f17_ok bl bn bm bp p m x i s' _ h0 (by omega) (by omega) (by omega) hp') ?_); rintro _ _ ⟨rfl, rfl⟩) | with_reducible refine sw_nil ?_ | with_reducible refine sq_then ?_ | with_reducible refine sc_seq ?_ | with_reducible refine sc_region ?_ | with_reducible refine sw_guard_skip ?_ | with_reducible refine sw_guard_skip_ ?_ | with_reducible refine sw_guard_run ?_ | with_reducible refine sc_cond_true ?_ | with_reducible refine sc_cond_false ?_ | with_reducible refine sc_ret ?_ | with_reducible refine sq_then_ret ?_ | with_reducible refine sc_skip ?_ | with_reducible refine sc_block ?_ | with_reducible refine sq_block ?_ | with_reducible refine sq_block_ret ?_ | with_reducible refine sc_exit ?_ | with_reducible refine sq_then_exit ?_ | with_reducible refine sq_block_exit ?_ | with_reducible refine sq_block_past ?_ | with_reducible refine sq_round_ret ?_ | with_reducible refine sq_round_exit ?_ | (with_reducible refine sc_cond (fun h => ?_) (fun h => ?_)) <;> (try (exfalso; first | contradiction | omega | exact h Iff.rfl)) | (with_reducible refine sw_guard_split (fun h => ?_) (fun h => ?_)) <;> (try (exfalso; first | contradiction | omega | exact h Iff.rfl)) | (with_reducible refine sw_pick (fun h => ?_) (fun h => ?_)) <;> (try (exfalso; first | contradiction | omega | exact h Iff.rfl)) | fail)
      refine sq_round ⟨(k + 1, s', fun j => j != ts && pend j), hk2, ⟨by show s'.last = _; omega, by show x ≤ s'.pub; omega, hp'⟩⟩ ?_ ?_ ?_
      · show os.length - (k + 1) < os.length - k
        omega
      · exact says_cons rfl (says_cons rfl (says_cons rfl (says_cons rfl (says_cons rfl (says_cons rfl (says_cons rfl (says_cons rfl says_nil)))))))
      · repeat' (first | with_reducible exact Ent.refl _ | with_reducible refine Ent.take_eq ?_ ?_ | rfl | with_reducible refine Ent.trans (Ent.drop _ _) ?_)
    refine sc_keep [3, 7, 9, 10, 14, 92, 93] fun e2 => ?_
    simp only [List.cons_append, List.nil_append]
    refine sc_loop (α := { y : Int × Or × (Int → Bool) // (0 ≤ y.1 ∧ y.1 ≤ i) ∧ OrdJ x i y.2.1 y.2.2 ∧ ∀ j, x + i - y.1 < j → y.2.2 j = false }) (fun y => [(3, .pointer (some ⟨bl, 0, none⟩)), (7, .pointer (some ⟨bp, 0, none⟩)), (9, .pointer (some ⟨bn, 0, none⟩)), (10, .pointer (some ⟨bm, 0, none⟩)), (14, .func (.func 17) #[] #[.pointer (some ⟨bl, 0, none⟩), .pointer (some ⟨bn, 0, none⟩), .pointer (some ⟨bm, 0, none⟩), .pointer (some ⟨bp, 0, none⟩)]), (92, .int .i64 i), (93, .int .i64 y.1.1)])
      (fun y => (bl, pts bl (ubox x)) :: (bn, pts bn (ibox i)) :: (bm, pts bm (mbox m)) :: (bp, pts bp (pbox p)) :: (m, MapI .i64 m (bmap y.1.2.2)) :: (p, OR p y.1.2.1) :: (0, ro W) :: F) (fun y => (i - y.1.1).toNat)
      ⟨(0, s, pend), ⟨Int.le_refl _, by show 0 ≤ i; omega⟩, hJ, fun j hj => by
        cases hq : pend j with
        | false => exact hq
        | true => have := ((hJ.pend j).1 hq).2.1; simp only at hj; omega⟩ ?_ ?_ ?_
    · exact says_cons rfl (says_cons rfl (says_cons rfl (says_cons rfl (says_cons rfl (says_cons rfl (says_cons rfl says_nil))))))
    · repeat' (first | with_reducible exact Ent.refl _ | with_reducible refine Ent.take_eq ?_ ?_ | rfl | with_reducible refine Ent.trans (Ent.drop _ _) ?_)
    clear hJ hl
    clear s pend
    rintro ⟨⟨t, s, pend⟩, ⟨ht0, ht1⟩, hJ, hF⟩ e
    simp only at ht0 ht1 hJ hF
    simp only [List.cons_append, List.nil_append]
    have hl := hJ.last
    have hb2 := hJ.pub
    repeat' (first | with_reducible refine sw_i64 (by omega) ?_ | with_reducible refine sw_conv_i64 (by omega) ?_ | with_reducible refine sw_op ?_ | with_reducible refine sw_op_ ?_ | ((with_reducible refine sw_call (f20_pend p s _ pend hJ.pend) ?_); rintro _ _ ⟨s', v, ⟨hv, hp', hl', hb'⟩, rfl, rfl⟩) | with_reducible refine sw_delete ?_ | with_reducible refine sw_nil ?_ | with_reducible refine sq_then ?_ | with_reducible refine sc_seq ?_ | with_reducible refine sc_region ?_ | with_reducible refine sw_guard_skip ?_ | with_reducible refine sw_guard_skip_ ?_ | with_reducible refine sw_guard_run ?_ | with_reducible refine sc_cond_true ?_ | with_reducible refine sc_cond_false ?_ | with_reducible refine sc_ret ?_ | with_reducible refine sq_then_ret ?_ | with_reducible refine sc_skip ?_ | with_reducible refine sc_block ?_ | with_reducible refine sq_block ?_ | with_reducible refine sq_block_ret ?_ | with_reducible refine sc_exit ?_ | with_reducible refine sq_then_exit ?_ | with_reducible refine sq_block_exit ?_ | with_reducible refine sq_block_past ?_ | with_reducible refine sq_round_ret ?_ | with_reducible refine sq_round_exit ?_ | (with_reducible refine sc_cond (fun h => ?_) (fun h => ?_)) <;> (try (exfalso; first | contradiction | omega | exact h Iff.rfl)) | (with_reducible refine sw_guard_split (fun h => ?_) (fun h => ?_)) <;> (try (exfalso; first | contradiction | omega | exact h Iff.rfl)) | (with_reducible refine sw_pick (fun h => ?_) (fun h => ?_)) <;> (try (exfalso; first | contradiction | omega | exact h Iff.rfl)) | fail)
    focus
      rw [bmap_del]
      repeat' (first | with_reducible refine sw_i64 (by omega) ?_ | with_reducible refine sw_op ?_ | with_reducible refine sw_op_ ?_ | ((with_reducible refine sw_callv (fs := []) (vs := []) (cs := [.pointer (some ⟨bl, 0, none⟩), .pointer (some ⟨bn, 0, none⟩), .pointer (some ⟨bm, 0, none⟩), .pointer (some ⟨bp, 0, none⟩)]) (f17_ok bl bn bm bp p m x i s' _ h0 (by omega) (by omega) (by omega) hp') ?_); rintro _ _ ⟨rfl, rfl⟩) | with_reducible refine sw_nil ?_ | with_reducible refine sq_then ?_ | with_reducible refine sc_seq ?_ | with_reducible refine sc_region ?_ | with_reducible refine sw_guard_skip ?_ | with_reducible refine sw_guard_skip_ ?_ | with_reducible refine sw_guard_run ?_ | with_reducible refine sc_cond_true ?_ | with_reducible refine sc_cond_false ?_ | with_reducible refine sc_ret ?_ | with_reducible refine sq_then_ret ?_ | with_reducible refine sc_skip ?_ | with_reducible refine sc_block ?_ | with_reducible refine sq_block ?_ | with_reducible refine sq_block_ret ?_ | with_reducible refine sc_exit ?_ | with_reducible refine sq_then_exit ?_ | with_reducible refine sq_block_exit ?_ | with_reducible refine sq_block_past ?_ | with_reducible refine sq_round_ret ?_ | with_reducible refine sq_round_exit ?_ | (with_reducible refine sc_cond (fun h => ?_) (fun h => ?_)) <;> (try (exfalso; first | contradiction | omega | exact h Iff.rfl)) | (with_reducible refine sw_guard_split (fun h => ?_) (fun h => ?_)) <;> (try (exfalso; first | contradiction | omega | exact h Iff.rfl)) | (with_reducible refine sw_pick (fun h => ?_) (fun h => ?_)) <;> (try (exfalso; first | contradiction | omega | exact h Iff.rfl)) | fail)
      refine sq_round ⟨(t + 1, s', fun j => j != x + i - t && pend j), ⟨by show 0 ≤ t + 1; omega, by show t + 1 ≤ i; omega⟩, ⟨by show s'.last = _; omega, by show x ≤ s'.pub; omega, hp'⟩, fun j hj => by
        show (j != x + i - t && pend j) = false
        by_cases hq : j = x + i - t
        · simp [hq]
        · rw [hF j (by simp only at hj; omega)]; simp⟩ ?_ ?_ ?_
      · show (i - (t + 1)).toNat < (i - t).toNat
        omega
      · exact says_cons rfl (says_cons rfl (says_cons rfl (says_cons rfl (says_cons rfl (says_cons rfl (says_cons rfl says_nil))))))
      · repeat' (first | with_reducible exact Ent.refl _ | with_reducible refine Ent.take_eq ?_ ?_ | rfl | with_reducible refine Ent.trans (Ent.drop _ _) ?_)
    refine OR.scwf (p := p) (s := s) fun hw => ?_
    have hfin : s.pub = s.last := by
      have h1 := hw.pl
      by_cases h2 : s.pub < s.last
      · have h3 := (hJ.pend (s.pub + 1)).2 ⟨by omega, by omega, hw.a1⟩
        rw [hF (s.pub + 1) (by omega)] at h3
        cases h3
      · omega
    refine sc_drawG (m := 6) ([(bp, pts bp (pbox p))]) (by kernel_rfl) rfl ?_
    all_goals (first | refine sg_take 0 (by repeat' (first | with_reducible exact calm_post | with_reducible refine Calm.then ?_ | with_reducible refine Calm.block ?_ | with_reducible refine Calm.round ?_ | with_reducible refine Calm.mark ?_)) rfl (by kernel_rfl) (by kernel_rfl) (by kernel_rfl) ?_)
    all_goals (first | refine sg_take 2 (by repeat' (first | with_reducible exact calm_post | with_reducible refine Calm.then ?_ | with_reducible refine Calm.block ?_ | with_reducible refine Calm.round ?_ | with_reducible refine Calm.mark ?_)) rfl (by kernel_rfl) (by kernel_rfl) (by kernel_rfl) ?_)
    all_goals (refine sg_one 1 rfl (by kernel_rfl) rfl ?_)
    all_goals (repeat' (first | with_reducible refine sw_op ?_ | with_reducible refine sw_op_ ?_ | ((with_reducible refine sw_call (f18_ok p s) ?_); rintro _ _ ⟨rfl, rfl⟩) | ((with_reducible refine sw_call (f19_ok p s) ?_); rintro _ _ ⟨rfl, rfl⟩) | with_reducible refine sg_back ?_ | with_reducible refine sw_nil ?_ | with_reducible refine sq_then ?_ | with_reducible refine sc_seq ?_ | with_reducible refine sc_region ?_ | with_reducible refine sw_guard_skip ?_ | with_reducible refine sw_guard_skip_ ?_ | with_reducible refine sw_guard_run ?_ | with_reducible refine sc_cond_true ?_ | with_reducible refine sc_cond_false ?_ | with_reducible refine sc_ret ?_ | with_reducible refine sq_then_ret ?_ | with_reducible refine sc_skip ?_ | with_reducible refine sc_block ?_ | with_reducible refine sq_block ?_ | with_reducible refine sq_block_ret ?_ | with_reducible refine sc_exit ?_ | with_reducible refine sq_then_exit ?_ | with_reducible refine sq_block_exit ?_ | with_reducible refine sq_block_past ?_ | with_reducible refine sq_round_ret ?_ | with_reducible refine sq_round_exit ?_ | fail))
    all_goals (refine sg_one 3 rfl (by kernel_rfl) rfl ?_)
    all_goals (repeat' (first | with_reducible refine sw_op ?_ | with_reducible refine sw_op_ ?_ | ((with_reducible refine sw_call (f18_ok p s) ?_); rintro _ _ ⟨rfl, rfl⟩) | ((with_reducible refine sw_call (f19_ok p s) ?_); rintro _ _ ⟨rfl, rfl⟩) | with_reducible refine sg_back ?_ | with_reducible refine sw_nil ?_ | with_reducible refine sq_then ?_ | with_reducible refine sc_seq ?_ | with_reducible refine sc_region ?_ | with_reducible refine sw_guard_skip ?_ | with_reducible refine sw_guard_skip_ ?_ | with_reducible refine sw_guard_run ?_ | with_reducible refine sc_cond_true ?_ | with_reducible refine sc_cond_false ?_ | with_reducible refine sc_ret ?_ | with_reducible refine sq_then_ret ?_ | with_reducible refine sc_skip ?_ | with_reducible refine sc_block ?_ | with_reducible refine sq_block ?_ | with_reducible refine sq_block_ret ?_ | with_reducible refine sc_exit ?_ | with_reducible refine sq_then_exit ?_ | with_reducible refine sq_block_exit ?_ | with_reducible refine sq_block_past ?_ | with_reducible refine sq_round_ret ?_ | with_reducible refine sq_round_exit ?_ | fail))
    all_goals (first | refine sg_take 4 (by repeat' (first | with_reducible exact calm_post | with_reducible refine Calm.then ?_ | with_reducible refine Calm.block ?_ | with_reducible refine Calm.round ?_ | with_reducible refine Calm.mark ?_)) rfl (by kernel_rfl) (by kernel_rfl) (by kernel_rfl) ?_)
    all_goals (first | refine sg_take 5 (by repeat' (first | with_reducible exact calm_post | with_reducible refine Calm.then ?_ | with_reducible refine Calm.block ?_ | with_reducible refine Calm.round ?_ | with_reducible refine Calm.mark ?_)) rfl (by kernel_rfl) (by kernel_rfl) (by kernel_rfl) ?_)
    all_goals (refine sg_done (by kernel_rfl) rfl ?_)
    repeat' (first | with_reducible refine sw_op ?_ | with_reducible refine sw_op_ ?_ | with_reducible refine sw_nil ?_ | with_reducible refine sq_then ?_ | with_reducible refine sc_seq ?_ | with_reducible refine sc_region ?_ | with_reducible refine sw_guard_skip ?_ | with_reducible refine sw_guard_skip_ ?_ | with_reducible refine sw_guard_run ?_ | with_reducible refine sc_cond_true ?_ | with_reducible refine sc_cond_false ?_ | with_reducible refine sc_ret ?_ | with_reducible refine sq_then_ret ?_ | with_reducible refine sc_skip ?_ | with_reducible refine sc_block ?_ | with_reducible refine sq_block ?_ | with_reducible refine sq_block_ret ?_ | with_reducible refine sc_exit ?_ | with_reducible refine sq_then_exit ?_ | with_reducible refine sq_block_exit ?_ | with_reducible refine sq_block_past ?_ | with_reducible refine sq_round_ret ?_ | with_reducible refine sq_round_exit ?_ | fail)
    exact sq_ret1 Try.results3 ⟨_, ⟨by simp [hfin], _, rfl⟩, take_ent (k := 0) (r := ro W)⟩

end Go.Gsl
