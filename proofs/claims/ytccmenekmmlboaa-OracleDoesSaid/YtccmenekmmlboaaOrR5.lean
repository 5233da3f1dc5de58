/- The oracle's Clone. -/
import Derived.Test.YtccmenekmmlboaaOrR4
import Derived.Test.YtccmenekmmlboaaGsl18
namespace Go.Gsl
set_option linter.unusedVariables false
open Go.Proofs Go.RowKit

/-- where Clone's 'at' stands when these have come -/
def atOf (s : Or) (pre : List Int) : Int := (pre.getLast?.map (· + 1)).getD (s.pub + 1)
theorem atOf_nil (s : Or) : atOf s [] = s.pub + 1 := rfl
theorem atOf_add (s : Or) (pre : List Int) (i : Int) : atOf s (pre ++ [i]) = i + 1 := by simp [atOf]
/-- what is marked below 'u' -/
def below (s : Or) (u : Int) : Int → Bool := fun j => s.A j && decide (j < u)
theorem below_start {s : Or} (hw : s.Wf) : (fun _ => false) = below s (s.pub + 1) := by
  funext j
  have h := hw.alo j
  unfold below
  cases ha : s.A j with
  | false => rfl
  | true => have := h ha; simp; omega
theorem below_put {s : Or} {u : Int} (ha : s.A u = true) : (fun j => j == u || below s u j) = below s (u + 1) := by
  funext j
  unfold below
  by_cases hj : j = u
  · subst hj; simp [ha]; omega
  · simp only [hj, beq_iff_eq, Bool.or_eq_true, beq_eq_false_iff_ne.2 hj, Bool.false_or]
    congr 1
    simp; omega
theorem below_skip {s : Or} {u : Int} (ha : s.A u = false) : below s u = below s (u + 1) := by
  funext j
  unfold below
  by_cases hj : j = u
  · subst hj; simp [ha]
  · congr 1
    simp; omega
theorem below_all {s : Or} (hw : s.Wf) : below s (s.last + 1) = s.A := by
  funext j
  have h := hw.ahi j
  unfold below
  cases ha : s.A j with
  | false => rfl
  | true => have := h ha; simp; omega

/-- before the next pending one all are marked -/
theorem gap {s : Or} {P : List Int} (h : PendL s P) {pre : List Int} {i u : Int} (hx : P[pre.length]? = some i) (hp : pre = P.take pre.length) (h1 : atOf s pre ≤ u) (h2 : u < i) : s.A u = true ∧ s.pub < u := by
  obtain ⟨hlt, hi⟩ := List.getElem?_eq_some_iff.1 hx
  have hq := h.lt
  have hmi := (h.mem i).1 (by rw [← hi]; exact List.getElem_mem hlt)
  have hlo : s.pub < u ∧ ∀ j ∈ pre, j < u := by
    rcases List.eq_nil_or_concat pre with rfl | ⟨q, z, rfl⟩
    · rw [atOf_nil] at h1; exact ⟨by omega, fun j hj => by cases hj⟩
    · rw [List.concat_eq_append, atOf_add] at h1
      rw [List.concat_eq_append] at hp
      have hz : z ∈ P := by
        have : z ∈ q ++ [z] := by simp
        rw [hp] at this
        exact List.mem_of_mem_take this
      have := (h.mem z).1 hz
      refine ⟨by omega, fun j hj => ?_⟩
      have hs : (q ++ [z]).Pairwise (· < ·) := by rw [hp]; exact hq.sublist (List.take_sublist _ _)
      rw [List.pairwise_append] at hs
      rw [List.concat_eq_append, List.mem_append, List.mem_singleton] at hj
      rcases hj with hj | rfl
      · have := hs.2.2 j hj z (by simp); omega
      · omega
  refine ⟨?_, hlo.1⟩
  cases ha : s.A u with
  | true => rfl
  | false =>
    have hu : u ∈ P := (h.mem u).2 ⟨hlo.1, by omega, ha⟩
    rw [split_at hx, ← hp, List.mem_append, List.mem_cons] at hu
    rw [split_at hx, ← hp, List.pairwise_append, List.pairwise_cons] at hq
    rcases hu with hu | hu | hu
    · have := hlo.2 u hu; omega
    · omega
    · have := hq.2.1.1 u hu; omega
/-- behind the last one too -/
theorem gap_end {s : Or} {P : List Int} (h : PendL s P) {u : Int} (h1 : atOf s P ≤ u) (h2 : u ≤ s.last) : s.A u = true ∧ s.pub < u := by
  have hlo : s.pub < u ∧ u ∉ P := by
    rcases List.eq_nil_or_concat P with rfl | ⟨q, z, rfl⟩
    · rw [atOf_nil] at h1; exact ⟨by omega, by simp⟩
    · rw [List.concat_eq_append] at h h1 ⊢
      rw [atOf_add] at h1
      have hz := (h.mem z).1 (by simp)
      refine ⟨by omega, fun hu => ?_⟩
      have hs := h.lt
      rw [List.pairwise_append] at hs
      rw [List.mem_append, List.mem_singleton] at hu
      rcases hu with hu | rfl
      · have := hs.2.2 u hu z (by simp); omega
      · omega
  refine ⟨?_, hlo.1⟩
  cases ha : s.A u with
  | true => rfl
  | false => exact absurd ((h.mem u).2 ⟨hlo.1, h2, ha⟩) hlo.2
theorem atOf_le {s : Or} {P : List Int} (hw : s.Wf) (h : PendL s P) : atOf s P ≤ s.last + 1 ∧ s.pub < atOf s P := by
  have hpl := hw.pl
  rcases List.eq_nil_or_concat P with rfl | ⟨q, z, rfl⟩
  · rw [atOf_nil]; omega
  · rw [List.concat_eq_append] at h ⊢
    rw [atOf_add]
    have hz := (h.mem z).1 (by simp)
    omega
theorem atOf_pre {s : Or} {P : List Int} (h : PendL s P) {pre : List Int} {i : Int} (hx : P[pre.length]? = some i) (hp : pre = P.take pre.length) : atOf s pre ≤ i ∧ s.pub < atOf s pre ∧ i ≤ s.last ∧ s.A i = false := by
  obtain ⟨hlt, hi⟩ := List.getElem?_eq_some_iff.1 hx
  have hmi := (h.mem i).1 (by rw [← hi]; exact List.getElem_mem hlt)
  refine ⟨?_, ?_, hmi.2.1, hmi.2.2⟩
  all_goals
    rcases List.eq_nil_or_concat pre with rfl | ⟨q, z, rfl⟩
    · rw [atOf_nil]; omega
    · have hq := h.lt
      rw [List.concat_eq_append] at hp hx ⊢
      rw [atOf_add]
      rw [split_at hx, ← hp, List.pairwise_append] at hq
      have := hq.2.2 z (by simp) i (by simp)
      have hz := (h.mem z).1 (by
        have : z ∈ q ++ [z] := by simp
        rw [hp] at this
        exact List.mem_of_mem_take this)
      omega

abbrev cbox (p : Nat) : Obj := .cells [.pointer (some ⟨p, 0, none⟩)].toArray 24 (0, 0)

set_option maxHeartbeats 2000000 in
theorem f31_ok (p : Nat) (s : Or) : Spec Try.prog 31 [.pointer (some ⟨p, 0, none⟩)] [p] [OR p s] fun F v Rs' => ∃ p', v = .pointer (some ⟨p', 0, none⟩) ∧ Rs' = (p', OR p' s) :: (p, OR p s) :: F := by
  refine spec_of Try.func31 rfl Try.ntmps31 rfl ?_
  intro w0 F
  refine OR.scwf (p := p) (s := s) fun hw => ?_
  have hp0 := hw.p0
  have hpl := hw.pl
  have hlm := hw.lm
  repeat' (first | with_reducible refine sw_op ?_ | with_reducible refine sw_op_ ?_ | ((with_reducible refine sw_call (f59_or p s) ?_); rintro _ _ ⟨rfl, rfl⟩) | ((with_reducible refine sw_build [.int .i64 0] ?_ ?_); exact rfl) | with_reducible refine sw_nil ?_ | with_reducible refine sq_then ?_ | with_reducible refine sc_seq ?_ | with_reducible refine sc_region ?_ | with_reducible refine sw_guard_skip ?_ | with_reducible refine sw_guard_skip_ ?_ | with_reducible refine sw_guard_run ?_ | with_reducible refine sc_cond_true ?_ | with_reducible refine sc_cond_false ?_ | with_reducible refine sc_ret ?_ | with_reducible refine sq_then_ret ?_ | with_reducible refine sc_skip ?_ | with_reducible refine sc_block ?_ | with_reducible refine sq_block ?_ | with_reducible refine sq_block_ret ?_ | with_reducible refine sc_exit ?_ | with_reducible refine sq_then_exit ?_ | with_reducible refine sq_block_exit ?_ | with_reducible refine sq_block_past ?_ | with_reducible refine sq_round_ret ?_ | with_reducible refine sq_round_exit ?_ | (with_reducible refine sc_cond (fun h => ?_) (fun h => ?_)) <;> (try (exfalso; first | contradiction | omega | exact h Iff.rfl)) | (with_reducible refine sw_guard_split (fun h => ?_) (fun h => ?_)) <;> (try (exfalso; first | contradiction | omega | exact h Iff.rfl)) | (with_reducible refine sw_pick (fun h => ?_) (fun h => ?_)) <;> (try (exfalso; first | contradiction | omega | exact h Iff.rfl)) | fail)
  refine sw_box fun l' => ?_
  repeat' (first | with_reducible refine sw_op ?_ | with_reducible refine sw_op_ ?_ | ((with_reducible refine sw_build [.int .i64 0] ?_ ?_); exact rfl) | with_reducible refine sw_nil ?_ | with_reducible refine sq_then ?_ | with_reducible refine sc_seq ?_ | with_reducible refine sc_region ?_ | with_reducible refine sw_guard_skip ?_ | with_reducible refine sw_guard_skip_ ?_ | with_reducible refine sw_guard_run ?_ | with_reducible refine sc_cond_true ?_ | with_reducible refine sc_cond_false ?_ | with_reducible refine sc_ret ?_ | with_reducible refine sq_then_ret ?_ | with_reducible refine sc_skip ?_ | with_reducible refine sc_block ?_ | with_reducible refine sq_block ?_ | with_reducible refine sq_block_ret ?_ | with_reducible refine sc_exit ?_ | with_reducible refine sq_then_exit ?_ | with_reducible refine sq_block_exit ?_ | with_reducible refine sq_block_past ?_ | with_reducible refine sq_round_ret ?_ | with_reducible refine sq_round_exit ?_ | fail)
  refine sw_box fun q' => ?_
  refine sw_makeMap (k := .i64) fun m1' => ?_
  refine OR.sw (p := p) (s := s) fun _ l q m1 m2 => ?_
  unfold ORl
  repeat' (first | with_reducible refine sw_op ?_ | with_reducible refine sw_op_ ?_ | ((with_reducible refine sw_call (f68_ok m2 (imap s.O)) ?_); rintro _ _ ⟨m2', rfl, rfl⟩) | with_reducible refine sw_nil ?_ | with_reducible refine sq_then ?_ | with_reducible refine sc_seq ?_ | with_reducible refine sc_region ?_ | with_reducible refine sw_guard_skip ?_ | with_reducible refine sw_guard_skip_ ?_ | with_reducible refine sw_guard_run ?_ | with_reducible refine sc_cond_true ?_ | with_reducible refine sc_cond_false ?_ | with_reducible refine sc_ret ?_ | with_reducible refine sq_then_ret ?_ | with_reducible refine sc_skip ?_ | with_reducible refine sc_block ?_ | with_reducible refine sq_block ?_ | with_reducible refine sq_block_ret ?_ | with_reducible refine sc_exit ?_ | with_reducible refine sq_then_exit ?_ | with_reducible refine sq_block_exit ?_ | with_reducible refine sq_block_past ?_ | with_reducible refine sq_round_ret ?_ | with_reducible refine sq_round_exit ?_ | fail)
  refine sw_build [.pointer (some ⟨l', 0, none⟩), .pointer (some ⟨q', 0, none⟩), .map (some m1'), .map (some m2')] rfl ?_
  refine sw_box fun p' => ?_
  refine sw_alloc fun bc => ?_
  repeat' (first | with_reducible refine sw_op ?_ | with_reducible refine sw_op_ ?_ | with_reducible refine sw_store ?_ | with_reducible refine sw_nil ?_ | with_reducible refine sq_then ?_ | with_reducible refine sc_seq ?_ | with_reducible refine sc_region ?_ | with_reducible refine sw_guard_skip ?_ | with_reducible refine sw_guard_skip_ ?_ | with_reducible refine sw_guard_run ?_ | with_reducible refine sc_cond_true ?_ | with_reducible refine sc_cond_false ?_ | with_reducible refine sc_ret ?_ | with_reducible refine sq_then_ret ?_ | with_reducible refine sc_skip ?_ | with_reducible refine sc_block ?_ | with_reducible refine sq_block ?_ | with_reducible refine sq_block_ret ?_ | with_reducible refine sc_exit ?_ | with_reducible refine sq_then_exit ?_ | with_reducible refine sq_block_exit ?_ | with_reducible refine sq_block_past ?_ | with_reducible refine sq_round_ret ?_ | with_reducible refine sq_round_exit ?_ | fail)
  refine sw_ent (Rs'' := (bc, pts bc (cbox p')) :: (p', pts p' (orow l' q' m1' m2')) :: (l', pts l' (atom 0)) :: (q', pts q' (atom 0)) :: (m1', MapI .i64 m1' (bmap (below s (s.pub + 1)))) :: (m2', MapI .i64 m2' (imap s.O)) :: (p, OR p s) :: F) ?_ ?_
  · refine Ent.trans (B := (bc, pts bc (cbox p')) :: (p', pts p' (orow l' q' m1' m2')) :: (l', pts l' (atom 0)) :: (q', pts q' (atom 0)) :: (m1', MapI .i64 m1' (bmap (below s (s.pub + 1)))) :: (m2', MapI .i64 m2' (imap s.O)) :: ORl p s l q m1 m2 F) ?_ (Ent.cons _ (Ent.cons _ (Ent.cons _ (Ent.cons _ (Ent.cons _ (Ent.cons _ (OR.close hw)))))))
    unfold ORl
    rw [← below_start hw, ← bmap_nil]
    repeat' (first | with_reducible exact Ent.refl _ | with_reducible refine Ent.take_eq ?_ ?_ | rfl | with_reducible refine Ent.trans (Ent.drop _ _) ?_)
  repeat' (first | with_reducible refine sw_i64 (by omega) ?_ | with_reducible refine sw_op ?_ | with_reducible refine sw_op_ ?_ | ((with_reducible refine sw_call (f18_ok p s) ?_); rintro _ _ ⟨rfl, rfl⟩) | with_reducible refine sw_nil ?_ | with_reducible refine sq_then ?_ | with_reducible refine sc_seq ?_ | with_reducible refine sc_region ?_ | with_reducible refine sw_guard_skip ?_ | with_reducible refine sw_guard_skip_ ?_ | with_reducible refine sw_guard_run ?_ | with_reducible refine sc_cond_true ?_ | with_reducible refine sc_cond_false ?_ | with_reducible refine sc_ret ?_ | with_reducible refine sq_then_ret ?_ | with_reducible refine sc_skip ?_ | with_reducible refine sc_block ?_ | with_reducible refine sq_block ?_ | with_reducible refine sq_block_ret ?_ | with_reducible refine sc_exit ?_ | with_reducible refine sq_then_exit ?_ | with_reducible refine sq_block_exit ?_ | with_reducible refine sq_block_past ?_ | with_reducible refine sq_round_ret ?_ | with_reducible refine sq_round_exit ?_ | fail)
  refine sw_alloc fun ba => ?_
  repeat' (first | with_reducible refine sw_op ?_ | with_reducible refine sw_op_ ?_ | with_reducible refine sw_store ?_ | ((with_reducible refine sw_call (f33_ok p s) ?_); rintro _ _ ⟨bx, kv, rv, a, c, P, ⟨hP, ha, hr⟩, rfl, rfl⟩) | with_reducible refine sw_nil ?_ | with_reducible refine sq_then ?_ | with_reducible refine sc_seq ?_ | with_reducible refine sc_region ?_ | with_reducible refine sw_guard_skip ?_ | with_reducible refine sw_guard_skip_ ?_ | with_reducible refine sw_guard_run ?_ | with_reducible refine sc_cond_true ?_ | with_reducible refine sc_cond_false ?_ | with_reducible refine sc_ret ?_ | with_reducible refine sq_then_ret ?_ | with_reducible refine sc_skip ?_ | with_reducible refine sc_block ?_ | with_reducible refine sq_block ?_ | with_reducible refine sq_block_ret ?_ | with_reducible refine sc_exit ?_ | with_reducible refine sq_then_exit ?_ | with_reducible refine sq_block_exit ?_ | with_reducible refine sq_block_past ?_ | with_reducible refine sq_round_ret ?_ | with_reducible refine sq_round_exit ?_ | fail)
  have hfew := hP.few hw
  refine sc_rangeFunc (valsJi_iter bx kv rv a c P ha hr (by omega)) rfl (fun pre => (ba, pts ba (ibox (atOf s pre))) :: (bc, pts bc (cbox p')) :: (p', pts p' (orow l' q' m1' m2')) :: (l', pts l' (atom 0)) :: (q', pts q' (atom 0)) :: (m1', MapI .i64 m1' (bmap (below s (atOf s pre)))) :: (m2', MapI .i64 m2' (imap s.O)) :: (p, OR p s) :: F) (fun _ _ => falseR) ?_ ?_ ?_ ?_
  · rw [atOf_nil]
    repeat' (first | with_reducible exact Ent.refl _ | with_reducible refine Ent.take_eq ?_ ?_ | rfl | with_reducible refine Ent.trans (Ent.drop _ _) ?_)
  · intro w1 lp rc F' pre i hN
    obtain ⟨hN1, hN2⟩ := hN
    have hat := atOf_pre hP hN1 hN2
    simp only [List.cons_append]
    repeat' (first | with_reducible refine sw_op ?_ | with_reducible refine sw_op_ ?_ | with_reducible refine sq_rAssign ?_ | with_reducible refine sw_nil ?_ | with_reducible refine sq_then ?_ | with_reducible refine sc_seq ?_ | with_reducible refine sc_region ?_ | with_reducible refine sw_guard_skip ?_ | with_reducible refine sw_guard_skip_ ?_ | with_reducible refine sw_guard_run ?_ | with_reducible refine sc_cond_true ?_ | with_reducible refine sc_cond_false ?_ | with_reducible refine sc_ret ?_ | with_reducible refine sq_then_ret ?_ | with_reducible refine sc_skip ?_ | with_reducible refine sc_block ?_ | with_reducible refine sq_block ?_ | with_reducible refine sq_block_ret ?_ | with_reducible refine sc_exit ?_ | with_reducible refine sq_then_exit ?_ | with_reducible refine sq_block_exit ?_ | with_reducible refine sq_block_past ?_ | with_reducible refine sq_round_ret ?_ | with_reducible refine sq_round_exit ?_ | fail)
    refine sc_loop (α := { u : Int // atOf s pre ≤ u ∧ u ≤ i }) (fun u => [(0, .pointer (some ⟨p, 0, none⟩)), (3, .pointer (some ⟨bc, 0, none⟩)), (4, .pointer (some ⟨ba, 0, none⟩)), (5, .int .i64 i)])
      (fun u => (lp, LoopR lp rc .busy none) :: (ba, pts ba (ibox u.1)) :: (bc, pts bc (cbox p')) :: (p', pts p' (orow l' q' m1' m2')) :: (l', pts l' (atom 0)) :: (q', pts q' (atom 0)) :: (m1', MapI .i64 m1' (bmap (below s u.1))) :: (m2', MapI .i64 m2' (imap s.O)) :: (p, OR p s) :: (F ++ F')) (fun u => (i - u.1).toNat) ⟨atOf s pre, Int.le_refl _, hat.1⟩ ?_ ?_ ?_
    · repeat' (first | exact says_nil | refine says_cons rfl ?_ | refine says_cons (by simp) ?_)
    · repeat' (first | with_reducible exact Ent.refl _ | with_reducible refine Ent.take_eq ?_ ?_ | rfl | with_reducible refine Ent.trans (Ent.drop _ _) ?_)
    · rintro ⟨u, hu1, hu2⟩ e
      simp only [List.cons_append, List.nil_append]
      repeat' (first | with_reducible refine sw_i64 (by omega) ?_ | with_reducible refine sw_op ?_ | with_reducible refine sw_op_ ?_ | with_reducible refine sw_nil ?_ | with_reducible refine sq_then ?_ | with_reducible refine sc_seq ?_ | with_reducible refine sc_region ?_ | with_reducible refine sw_guard_skip ?_ | with_reducible refine sw_guard_skip_ ?_ | with_reducible refine sw_guard_run ?_ | with_reducible refine sc_cond_true ?_ | with_reducible refine sc_cond_false ?_ | with_reducible refine sc_ret ?_ | with_reducible refine sq_then_ret ?_ | with_reducible refine sc_skip ?_ | with_reducible refine sc_block ?_ | with_reducible refine sq_block ?_ | with_reducible refine sq_block_ret ?_ | with_reducible refine sc_exit ?_ | with_reducible refine sq_then_exit ?_ | with_reducible refine sq_block_exit ?_ | with_reducible refine sq_block_past ?_ | with_reducible refine sq_round_ret ?_ | with_reducible refine sq_round_exit ?_ | (with_reducible refine sc_cond (fun h => ?_) (fun h => ?_)) <;> (try (exfalso; first | contradiction | omega | exact h Iff.rfl)) | (with_reducible refine sw_guard_split (fun h => ?_) (fun h => ?_)) <;> (try (exfalso; first | contradiction | omega | exact h Iff.rfl)) | (with_reducible refine sw_pick (fun h => ?_) (fun h => ?_)) <;> (try (exfalso; first | contradiction | omega | exact h Iff.rfl)) | fail)
      · have hg := gap hP hN1 hN2 hu1 (by omega)
        refine sc_drawH (m := 6) ([(bc, pts bc (cbox p')), (ba, pts ba (ibox u)), (p', pts p' (orow l' q' m1' m2'))]) (by kernel_rfl) rfl ?_
        all_goals (first | refine sh_take 0 (by repeat' (first | with_reducible exact calm_post | with_reducible exact Calm.rEnd | with_reducible refine Calm.then ?_ | with_reducible refine Calm.block ?_ | with_reducible refine Calm.round ?_ | with_reducible refine Calm.mark ?_)) rfl (by kernel_rfl) (by kernel_rfl) (by kernel_rfl) ?_)
        all_goals (first | refine sh_take 1 (by repeat' (first | with_reducible exact calm_post | with_reducible exact Calm.rEnd | with_reducible refine Calm.then ?_ | with_reducible refine Calm.block ?_ | with_reducible refine Calm.round ?_ | with_reducible refine Calm.mark ?_)) rfl (by kernel_rfl) (by kernel_rfl) (by kernel_rfl) ?_)
        all_goals (first | refine sh_take 2 (by repeat' (first | with_reducible exact calm_post | with_reducible exact Calm.rEnd | with_reducible refine Calm.then ?_ | with_reducible refine Calm.block ?_ | with_reducible refine Calm.round ?_ | with_reducible refine Calm.mark ?_)) rfl (by kernel_rfl) (by kernel_rfl) (by kernel_rfl) ?_)
        all_goals (first | refine sh_take 3 (by repeat' (first | with_reducible exact calm_post | with_reducible exact Calm.rEnd | with_reducible refine Calm.then ?_ | with_reducible refine Calm.block ?_ | with_reducible refine Calm.round ?_ | with_reducible refine Calm.mark ?_)) rfl (by kernel_rfl) (by kernel_rfl) (by kernel_rfl) ?_)
        all_goals (first | refine sh_take 4 (by repeat' (first | with_reducible exact calm_post | with_reducible exact Calm.rEnd | with_reducible refine Calm.then ?_ | with_reducible refine Calm.block ?_ | with_reducible refine Calm.round ?_ | with_reducible refine Calm.mark ?_)) rfl (by kernel_rfl) (by kernel_rfl) (by kernel_rfl) ?_)
        all_goals (refine sh_one 5 rfl (by kernel_rfl) rfl ?_)
        all_goals (repeat' (first | with_reducible refine sw_op ?_ | with_reducible refine sw_op_ ?_ | with_reducible refine sw_mapUpdate ?_ | with_reducible refine sh_back ?_ | with_reducible refine sw_nil ?_ | with_reducible refine sq_then ?_ | with_reducible refine sc_seq ?_ | with_reducible refine sc_region ?_ | with_reducible refine sw_guard_skip ?_ | with_reducible refine sw_guard_skip_ ?_ | with_reducible refine sw_guard_run ?_ | with_reducible refine sc_cond_true ?_ | with_reducible refine sc_cond_false ?_ | with_reducible refine sc_ret ?_ | with_reducible refine sq_then_ret ?_ | with_reducible refine sc_skip ?_ | with_reducible refine sc_block ?_ | with_reducible refine sq_block ?_ | with_reducible refine sq_block_ret ?_ | with_reducible refine sc_exit ?_ | with_reducible refine sq_then_exit ?_ | with_reducible refine sq_block_exit ?_ | with_reducible refine sq_block_past ?_ | with_reducible refine sq_round_ret ?_ | with_reducible refine sq_round_exit ?_ | fail))
        all_goals (refine sh_done (by kernel_rfl) rfl ?_)
        rw [bmap_put, below_put hg.1]
        repeat' (first | with_reducible refine sw_i64 (by omega) ?_ | with_reducible refine sw_op ?_ | with_reducible refine sw_op_ ?_ | with_reducible refine sw_store ?_ | with_reducible refine sw_nil ?_ | with_reducible refine sq_then ?_ | with_reducible refine sc_seq ?_ | with_reducible refine sc_region ?_ | with_reducible refine sw_guard_skip ?_ | with_reducible refine sw_guard_skip_ ?_ | with_reducible refine sw_guard_run ?_ | with_reducible refine sc_cond_true ?_ | with_reducible refine sc_cond_false ?_ | with_reducible refine sc_ret ?_ | with_reducible refine sq_then_ret ?_ | with_reducible refine sc_skip ?_ | with_reducible refine sc_block ?_ | with_reducible refine sq_block ?_ | with_reducible refine sq_block_ret ?_ | with_reducible refine sc_exit ?_ | with_reducible refine sq_then_exit ?_ | with_reducible refine sq_block_exit ?_ | with_reducible refine sq_block_past ?_ | with_reducible refine sq_round_ret ?_ | with_reducible refine sq_round_exit ?_ | fail)
        refine sq_round ⟨u + 1, by omega, by omega⟩ ?_ ?_ ?_
        · show (i - (u + 1)).toNat < (i - u).toNat
          omega
        · repeat' (first | exact says_nil | refine says_cons rfl ?_ | refine says_cons (by simp) ?_)
        · repeat' (first | with_reducible exact Ent.refl _ | with_reducible refine Ent.take_eq ?_ ?_ | rfl | with_reducible refine Ent.trans (Ent.drop _ _) ?_)
      · have hui : u = i := by omega
        subst hui
        repeat' (first | with_reducible refine sw_i64 (by omega) ?_ | with_reducible refine sw_op ?_ | with_reducible refine sw_op_ ?_ | with_reducible refine sw_store ?_ | with_reducible refine sw_nil ?_ | with_reducible refine sq_then ?_ | with_reducible refine sc_seq ?_ | with_reducible refine sc_region ?_ | with_reducible refine sw_guard_skip ?_ | with_reducible refine sw_guard_skip_ ?_ | with_reducible refine sw_guard_run ?_ | with_reducible refine sc_cond_true ?_ | with_reducible refine sc_cond_false ?_ | with_reducible refine sc_ret ?_ | with_reducible refine sq_then_ret ?_ | with_reducible refine sc_skip ?_ | with_reducible refine sc_block ?_ | with_reducible refine sq_block ?_ | with_reducible refine sq_block_ret ?_ | with_reducible refine sc_exit ?_ | with_reducible refine sq_then_exit ?_ | with_reducible refine sq_block_exit ?_ | with_reducible refine sq_block_past ?_ | with_reducible refine sq_round_ret ?_ | with_reducible refine sq_round_exit ?_ | fail)
        refine sq_rEnd ?_
        rw [below_skip hat.2.2.2, atOf_add]
        simp only [List.cons_append]
        repeat' (first | with_reducible exact Ent.refl _ | with_reducible refine Ent.take_eq ?_ ?_ | rfl | with_reducible refine Ent.trans (Ent.drop _ _) ?_)
  · intro r ys hD
    subst hD
    have hle := atOf_le hw hP
    show SQ _ _ _ _ _ ((r, defers0 r) :: (bx, pts bx (jbx a ys.length c)) :: (kv, rv) :: (ba, pts ba (ibox (atOf s ys))) :: (bc, pts bc (cbox p')) :: (p', pts p' (orow l' q' m1' m2')) :: (l', pts l' (atom 0)) :: (q', pts q' (atom 0)) :: (m1', MapI .i64 m1' (bmap (below s (atOf s ys)))) :: (m2', MapI .i64 m2' (imap s.O)) :: (p, OR p s) :: F)
    repeat' (first | with_reducible refine sw_op ?_ | with_reducible refine sw_op_ ?_ | with_reducible refine sq_then_m ?_ | with_reducible refine sq_block_m ?_ | with_reducible refine sw_nil ?_ | with_reducible refine sq_then ?_ | with_reducible refine sc_seq ?_ | with_reducible refine sc_region ?_ | with_reducible refine sw_guard_skip ?_ | with_reducible refine sw_guard_skip_ ?_ | with_reducible refine sw_guard_run ?_ | with_reducible refine sc_cond_true ?_ | with_reducible refine sc_cond_false ?_ | with_reducible refine sc_ret ?_ | with_reducible refine sq_then_ret ?_ | with_reducible refine sc_skip ?_ | with_reducible refine sc_block ?_ | with_reducible refine sq_block ?_ | with_reducible refine sq_block_ret ?_ | with_reducible refine sc_exit ?_ | with_reducible refine sq_then_exit ?_ | with_reducible refine sq_block_exit ?_ | with_reducible refine sq_block_past ?_ | with_reducible refine sq_round_ret ?_ | with_reducible refine sq_round_exit ?_ | fail)
    refine sc_loop (α := { u : Int // atOf s ys ≤ u ∧ u ≤ s.last + 1 }) (fun u => [(0, .pointer (some ⟨p, 0, none⟩)), (3, .pointer (some ⟨bc, 0, none⟩)), (4, .pointer (some ⟨ba, 0, none⟩))])
      (fun u => (r, defers0 r) :: (ba, pts ba (ibox u.1)) :: (bc, pts bc (cbox p')) :: (p', pts p' (orow l' q' m1' m2')) :: (l', pts l' (atom 0)) :: (q', pts q' (atom 0)) :: (m1', MapI .i64 m1' (bmap (below s u.1))) :: (m2', MapI .i64 m2' (imap s.O)) :: (p, OR p s) :: F) (fun u => (s.last + 1 - u.1).toNat) ⟨atOf s ys, Int.le_refl _, hle.1⟩ ?_ ?_ ?_
    · repeat' (first | exact says_nil | refine says_cons rfl ?_ | refine says_cons (by simp) ?_)
    · repeat' (first | with_reducible exact Ent.refl _ | with_reducible refine Ent.take_eq ?_ ?_ | rfl | with_reducible refine Ent.trans (Ent.drop _ _) ?_)
    · rintro ⟨u, hu1, hu2⟩ e
      simp only [List.cons_append, List.nil_append]
      repeat' (first | with_reducible refine sw_op ?_ | with_reducible refine sw_op_ ?_ | with_reducible refine sw_nil ?_ | with_reducible refine sq_then ?_ | with_reducible refine sc_seq ?_ | with_reducible refine sc_region ?_ | with_reducible refine sw_guard_skip ?_ | with_reducible refine sw_guard_skip_ ?_ | with_reducible refine sw_guard_run ?_ | with_reducible refine sc_cond_true ?_ | with_reducible refine sc_cond_false ?_ | with_reducible refine sc_ret ?_ | with_reducible refine sq_then_ret ?_ | with_reducible refine sc_skip ?_ | with_reducible refine sc_block ?_ | with_reducible refine sq_block ?_ | with_reducible refine sq_block_ret ?_ | with_reducible refine sc_exit ?_ | with_reducible refine sq_then_exit ?_ | with_reducible refine sq_block_exit ?_ | with_reducible refine sq_block_past ?_ | with_reducible refine sq_round_ret ?_ | with_reducible refine sq_round_exit ?_ | fail)
      refine sc_drawG (m := 4) ([(ba, pts ba (ibox u))]) (by kernel_rfl) rfl ?_
      all_goals (first | refine sg_take 0 (by repeat' (first | with_reducible exact calm_post | with_reducible refine Calm.then ?_ | with_reducible refine Calm.block ?_ | with_reducible refine Calm.round ?_ | with_reducible refine Calm.mark ?_)) rfl (by kernel_rfl) (by kernel_rfl) (by kernel_rfl) ?_)
      all_goals (first | refine sg_take 1 (by repeat' (first | with_reducible exact calm_post | with_reducible refine Calm.then ?_ | with_reducible refine Calm.block ?_ | with_reducible refine Calm.round ?_ | with_reducible refine Calm.mark ?_)) rfl (by kernel_rfl) (by kernel_rfl) (by kernel_rfl) ?_)
      all_goals (refine sg_one 2 rfl (by kernel_rfl) rfl ?_)
      all_goals (repeat' (first | with_reducible refine sw_op ?_ | with_reducible refine sw_op_ ?_ | ((with_reducible refine sw_call (f19_ok p s) ?_); rintro _ _ ⟨rfl, rfl⟩) | with_reducible refine sg_back ?_ | with_reducible refine sw_nil ?_ | with_reducible refine sq_then ?_ | with_reducible refine sc_seq ?_ | with_reducible refine sc_region ?_ | with_reducible refine sw_guard_skip ?_ | with_reducible refine sw_guard_skip_ ?_ | with_reducible refine sw_guard_run ?_ | with_reducible refine sc_cond_true ?_ | with_reducible refine sc_cond_false ?_ | with_reducible refine sc_ret ?_ | with_reducible refine sq_then_ret ?_ | with_reducible refine sc_skip ?_ | with_reducible refine sc_block ?_ | with_reducible refine sq_block ?_ | with_reducible refine sq_block_ret ?_ | with_reducible refine sc_exit ?_ | with_reducible refine sq_then_exit ?_ | with_reducible refine sq_block_exit ?_ | with_reducible refine sq_block_past ?_ | with_reducible refine sq_round_ret ?_ | with_reducible refine sq_round_exit ?_ | fail))
      all_goals (first | refine sg_take 3 (by repeat' (first | with_reducible exact calm_post | with_reducible refine Calm.then ?_ | with_reducible refine Calm.block ?_ | with_reducible refine Calm.round ?_ | with_reducible refine Calm.mark ?_)) rfl (by kernel_rfl) (by kernel_rfl) (by kernel_rfl) ?_)
      all_goals (refine sg_done (by kernel_rfl) rfl ?_)
      repeat' (first | with_reducible refine sw_op ?_ | with_reducible refine sw_op_ ?_ | with_reducible refine sw_nil ?_ | with_reducible refine sq_then ?_ | with_reducible refine sc_seq ?_ | with_reducible refine sc_region ?_ | with_reducible refine sw_guard_skip ?_ | with_reducible refine sw_guard_skip_ ?_ | with_reducible refine sw_guard_run ?_ | with_reducible refine sc_cond_true ?_ | with_reducible refine sc_cond_false ?_ | with_reducible refine sc_ret ?_ | with_reducible refine sq_then_ret ?_ | with_reducible refine sc_skip ?_ | with_reducible refine sc_block ?_ | with_reducible refine sq_block ?_ | with_reducible refine sq_block_ret ?_ | with_reducible refine sc_exit ?_ | with_reducible refine sq_then_exit ?_ | with_reducible refine sq_block_exit ?_ | with_reducible refine sq_block_past ?_ | with_reducible refine sq_round_ret ?_ | with_reducible refine sq_round_exit ?_ | (with_reducible refine sc_cond (fun h => ?_) (fun h => ?_)) <;> (try (exfalso; first | contradiction | omega | exact h Iff.rfl)) | (with_reducible refine sw_guard_split (fun h => ?_) (fun h => ?_)) <;> (try (exfalso; first | contradiction | omega | exact h Iff.rfl)) | (with_reducible refine sw_pick (fun h => ?_) (fun h => ?_)) <;> (try (exfalso; first | contradiction | omega | exact h Iff.rfl)) | fail)
      focus
        have hg := gap_end hP hu1 (by omega)
        refine sc_drawG (m := 6) ([(bc, pts bc (cbox p')), (ba, pts ba (ibox u)), (p', pts p' (orow l' q' m1' m2'))]) (by kernel_rfl) rfl ?_
        all_goals (first | refine sg_take 0 (by repeat' (first | with_reducible exact calm_post | with_reducible refine Calm.then ?_ | with_reducible refine Calm.block ?_ | with_reducible refine Calm.round ?_ | with_reducible refine Calm.mark ?_)) rfl (by kernel_rfl) (by kernel_rfl) (by kernel_rfl) ?_)
        all_goals (first | refine sg_take 1 (by repeat' (first | with_reducible exact calm_post | with_reducible refine Calm.then ?_ | with_reducible refine Calm.block ?_ | with_reducible refine Calm.round ?_ | with_reducible refine Calm.mark ?_)) rfl (by kernel_rfl) (by kernel_rfl) (by kernel_rfl) ?_)
        all_goals (first | refine sg_take 2 (by repeat' (first | with_reducible exact calm_post | with_reducible refine Calm.then ?_ | with_reducible refine Calm.block ?_ | with_reducible refine Calm.round ?_ | with_reducible refine Calm.mark ?_)) rfl (by kernel_rfl) (by kernel_rfl) (by kernel_rfl) ?_)
        all_goals (first | refine sg_take 3 (by repeat' (first | with_reducible exact calm_post | with_reducible refine Calm.then ?_ | with_reducible refine Calm.block ?_ | with_reducible refine Calm.round ?_ | with_reducible refine Calm.mark ?_)) rfl (by kernel_rfl) (by kernel_rfl) (by kernel_rfl) ?_)
        all_goals (first | refine sg_take 4 (by repeat' (first | with_reducible exact calm_post | with_reducible refine Calm.then ?_ | with_reducible refine Calm.block ?_ | with_reducible refine Calm.round ?_ | with_reducible refine Calm.mark ?_)) rfl (by kernel_rfl) (by kernel_rfl) (by kernel_rfl) ?_)
        all_goals (refine sg_one 5 rfl (by kernel_rfl) rfl ?_)
        all_goals (repeat' (first | with_reducible refine sw_op ?_ | with_reducible refine sw_op_ ?_ | with_reducible refine sw_mapUpdate ?_ | with_reducible refine sg_back ?_ | with_reducible refine sw_nil ?_ | with_reducible refine sq_then ?_ | with_reducible refine sc_seq ?_ | with_reducible refine sc_region ?_ | with_reducible refine sw_guard_skip ?_ | with_reducible refine sw_guard_skip_ ?_ | with_reducible refine sw_guard_run ?_ | with_reducible refine sc_cond_true ?_ | with_reducible refine sc_cond_false ?_ | with_reducible refine sc_ret ?_ | with_reducible refine sq_then_ret ?_ | with_reducible refine sc_skip ?_ | with_reducible refine sc_block ?_ | with_reducible refine sq_block ?_ | with_reducible refine sq_block_ret ?_ | with_reducible refine sc_exit ?_ | with_reducible refine sq_then_exit ?_ | with_reducible refine sq_block_exit ?_ | with_reducible refine sq_block_past ?_ | with_reducible refine sq_round_ret ?_ | with_reducible refine sq_round_exit ?_ | fail))
        all_goals (refine sg_done (by kernel_rfl) rfl ?_)
        rw [bmap_put, below_put hg.1]
        repeat' (first | with_reducible refine sw_i64 (by omega) ?_ | with_reducible refine sw_op ?_ | with_reducible refine sw_op_ ?_ | with_reducible refine sw_store ?_ | with_reducible refine sw_nil ?_ | with_reducible refine sq_then ?_ | with_reducible refine sc_seq ?_ | with_reducible refine sc_region ?_ | with_reducible refine sw_guard_skip ?_ | with_reducible refine sw_guard_skip_ ?_ | with_reducible refine sw_guard_run ?_ | with_reducible refine sc_cond_true ?_ | with_reducible refine sc_cond_false ?_ | with_reducible refine sc_ret ?_ | with_reducible refine sq_then_ret ?_ | with_reducible refine sc_skip ?_ | with_reducible refine sc_block ?_ | with_reducible refine sq_block ?_ | with_reducible refine sq_block_ret ?_ | with_reducible refine sc_exit ?_ | with_reducible refine sq_then_exit ?_ | with_reducible refine sq_block_exit ?_ | with_reducible refine sq_block_past ?_ | with_reducible refine sq_round_ret ?_ | with_reducible refine sq_round_exit ?_ | fail)
        refine sq_round ⟨u + 1, by omega, by omega⟩ ?_ ?_ ?_
        · show (s.last + 1 - (u + 1)).toNat < (s.last + 1 - u).toNat
          omega
        · repeat' (first | exact says_nil | refine says_cons rfl ?_ | refine says_cons (by simp) ?_)
        · repeat' (first | with_reducible exact Ent.refl _ | with_reducible refine Ent.take_eq ?_ ?_ | rfl | with_reducible refine Ent.trans (Ent.drop _ _) ?_)
      have hul : u = s.last + 1 := by omega
      subst hul
      rw [below_all hw]
      refine sc_drawG (m := 7) ([(bc, pts bc (cbox p')), (p', pts p' (orow l' q' m1' m2'))]) (by kernel_rfl) rfl ?_
      all_goals (first | refine sg_take 0 (by repeat' (first | with_reducible exact calm_post | with_reducible refine Calm.then ?_ | with_reducible refine Calm.block ?_ | with_reducible refine Calm.round ?_ | with_reducible refine Calm.mark ?_)) rfl (by kernel_rfl) (by kernel_rfl) (by kernel_rfl) ?_)
      all_goals (first | refine sg_take 1 (by repeat' (first | with_reducible exact calm_post | with_reducible refine Calm.then ?_ | with_reducible refine Calm.block ?_ | with_reducible refine Calm.round ?_ | with_reducible refine Calm.mark ?_)) rfl (by kernel_rfl) (by kernel_rfl) (by kernel_rfl) ?_)
      all_goals (first | refine sg_take 2 (by repeat' (first | with_reducible exact calm_post | with_reducible refine Calm.then ?_ | with_reducible refine Calm.block ?_ | with_reducible refine Calm.round ?_ | with_reducible refine Calm.mark ?_)) rfl (by kernel_rfl) (by kernel_rfl) (by kernel_rfl) ?_)
      all_goals (first | refine sg_take 3 (by repeat' (first | with_reducible exact calm_post | with_reducible refine Calm.then ?_ | with_reducible refine Calm.block ?_ | with_reducible refine Calm.round ?_ | with_reducible refine Calm.mark ?_)) rfl (by kernel_rfl) (by kernel_rfl) (by kernel_rfl) ?_)
      all_goals (first | refine sg_take 4 (by repeat' (first | with_reducible exact calm_post | with_reducible refine Calm.then ?_ | with_reducible refine Calm.block ?_ | with_reducible refine Calm.round ?_ | with_reducible refine Calm.mark ?_)) rfl (by kernel_rfl) (by kernel_rfl) (by kernel_rfl) ?_)
      all_goals (refine sg_one 5 rfl (by kernel_rfl) rfl ?_)
      all_goals (repeat' (first | with_reducible refine sw_op ?_ | with_reducible refine sw_op_ ?_ | ((with_reducible refine sw_call (f19_ok p s) ?_); rintro _ _ ⟨rfl, rfl⟩) | ((with_reducible refine sw_call (f58_ok l' _ _) ?_); rintro _ _ ⟨rfl, rfl⟩) | with_reducible refine sg_back ?_ | with_reducible refine sw_nil ?_ | with_reducible refine sq_then ?_ | with_reducible refine sc_seq ?_ | with_reducible refine sc_region ?_ | with_reducible refine sw_guard_skip ?_ | with_reducible refine sw_guard_skip_ ?_ | with_reducible refine sw_guard_run ?_ | with_reducible refine sc_cond_true ?_ | with_reducible refine sc_cond_false ?_ | with_reducible refine sc_ret ?_ | with_reducible refine sq_then_ret ?_ | with_reducible refine sc_skip ?_ | with_reducible refine sc_block ?_ | with_reducible refine sq_block ?_ | with_reducible refine sq_block_ret ?_ | with_reducible refine sc_exit ?_ | with_reducible refine sq_then_exit ?_ | with_reducible refine sq_block_exit ?_ | with_reducible refine sq_block_past ?_ | with_reducible refine sq_round_ret ?_ | with_reducible refine sq_round_exit ?_ | fail))
      all_goals (refine sg_one 6 rfl (by kernel_rfl) rfl ?_)
      all_goals (repeat' (first | with_reducible refine sw_op ?_ | with_reducible refine sw_op_ ?_ | ((with_reducible refine sw_call (f19_ok p s) ?_); rintro _ _ ⟨rfl, rfl⟩) | ((with_reducible refine sw_call (f58_ok l' _ _) ?_); rintro _ _ ⟨rfl, rfl⟩) | with_reducible refine sg_back ?_ | with_reducible refine sw_nil ?_ | with_reducible refine sq_then ?_ | with_reducible refine sc_seq ?_ | with_reducible refine sc_region ?_ | with_reducible refine sw_guard_skip ?_ | with_reducible refine sw_guard_skip_ ?_ | with_reducible refine sw_guard_run ?_ | with_reducible refine sc_cond_true ?_ | with_reducible refine sc_cond_false ?_ | with_reducible refine sc_ret ?_ | with_reducible refine sq_then_ret ?_ | with_reducible refine sc_skip ?_ | with_reducible refine sc_block ?_ | with_reducible refine sq_block ?_ | with_reducible refine sq_block_ret ?_ | with_reducible refine sc_exit ?_ | with_reducible refine sq_then_exit ?_ | with_reducible refine sq_block_exit ?_ | with_reducible refine sq_block_past ?_ | with_reducible refine sq_round_ret ?_ | with_reducible refine sq_round_exit ?_ | fail))
      all_goals (refine sg_done (by kernel_rfl) rfl ?_)
      repeat' (first | with_reducible refine sw_op ?_ | with_reducible refine sw_op_ ?_ | with_reducible refine sw_nil ?_ | with_reducible refine sq_then ?_ | with_reducible refine sc_seq ?_ | with_reducible refine sc_region ?_ | with_reducible refine sw_guard_skip ?_ | with_reducible refine sw_guard_skip_ ?_ | with_reducible refine sw_guard_run ?_ | with_reducible refine sc_cond_true ?_ | with_reducible refine sc_cond_false ?_ | with_reducible refine sc_ret ?_ | with_reducible refine sq_then_ret ?_ | with_reducible refine sc_skip ?_ | with_reducible refine sc_block ?_ | with_reducible refine sq_block ?_ | with_reducible refine sq_block_ret ?_ | with_reducible refine sc_exit ?_ | with_reducible refine sq_then_exit ?_ | with_reducible refine sq_block_exit ?_ | with_reducible refine sq_block_past ?_ | with_reducible refine sq_round_ret ?_ | with_reducible refine sq_round_exit ?_ | fail)
      refine sc_drawG (m := 7) ([(bc, pts bc (cbox p')), (p', pts p' (orow l' q' m1' m2'))]) (by kernel_rfl) rfl ?_
      all_goals (first | refine sg_take 0 (by repeat' (first | with_reducible exact calm_post | with_reducible refine Calm.then ?_ | with_reducible refine Calm.block ?_ | with_reducible refine Calm.round ?_ | with_reducible refine Calm.mark ?_)) rfl (by kernel_rfl) (by kernel_rfl) (by kernel_rfl) ?_)
      all_goals (first | refine sg_take 1 (by repeat' (first | with_reducible exact calm_post | with_reducible refine Calm.then ?_ | with_reducible refine Calm.block ?_ | with_reducible refine Calm.round ?_ | with_reducible refine Calm.mark ?_)) rfl (by kernel_rfl) (by kernel_rfl) (by kernel_rfl) ?_)
      all_goals (first | refine sg_take 2 (by repeat' (first | with_reducible exact calm_post | with_reducible refine Calm.then ?_ | with_reducible refine Calm.block ?_ | with_reducible refine Calm.round ?_ | with_reducible refine Calm.mark ?_)) rfl (by kernel_rfl) (by kernel_rfl) (by kernel_rfl) ?_)
      all_goals (first | refine sg_take 3 (by repeat' (first | with_reducible exact calm_post | with_reducible refine Calm.then ?_ | with_reducible refine Calm.block ?_ | with_reducible refine Calm.round ?_ | with_reducible refine Calm.mark ?_)) rfl (by kernel_rfl) (by kernel_rfl) (by kernel_rfl) ?_)
      all_goals (first | refine sg_take 4 (by repeat' (first | with_reducible exact calm_post | with_reducible refine Calm.then ?_ | with_reducible refine Calm.block ?_ | with_reducible refine Calm.round ?_ | with_reducible refine Calm.mark ?_)) rfl (by kernel_rfl) (by kernel_rfl) (by kernel_rfl) ?_)
      all_goals (refine sg_one 5 rfl (by kernel_rfl) rfl ?_)
      all_goals (repeat' (first | with_reducible refine sw_op ?_ | with_reducible refine sw_op_ ?_ | ((with_reducible refine sw_call (f18_ok p s) ?_); rintro _ _ ⟨rfl, rfl⟩) | ((with_reducible refine sw_call (f58_ok q' _ _) ?_); rintro _ _ ⟨rfl, rfl⟩) | with_reducible refine sg_back ?_ | with_reducible refine sw_nil ?_ | with_reducible refine sq_then ?_ | with_reducible refine sc_seq ?_ | with_reducible refine sc_region ?_ | with_reducible refine sw_guard_skip ?_ | with_reducible refine sw_guard_skip_ ?_ | with_reducible refine sw_guard_run ?_ | with_reducible refine sc_cond_true ?_ | with_reducible refine sc_cond_false ?_ | with_reducible refine sc_ret ?_ | with_reducible refine sq_then_ret ?_ | with_reducible refine sc_skip ?_ | with_reducible refine sc_block ?_ | with_reducible refine sq_block ?_ | with_reducible refine sq_block_ret ?_ | with_reducible refine sc_exit ?_ | with_reducible refine sq_then_exit ?_ | with_reducible refine sq_block_exit ?_ | with_reducible refine sq_block_past ?_ | with_reducible refine sq_round_ret ?_ | with_reducible refine sq_round_exit ?_ | fail))
      all_goals (refine sg_one 6 rfl (by kernel_rfl) rfl ?_)
      all_goals (repeat' (first | with_reducible refine sw_op ?_ | with_reducible refine sw_op_ ?_ | ((with_reducible refine sw_call (f18_ok p s) ?_); rintro _ _ ⟨rfl, rfl⟩) | ((with_reducible refine sw_call (f58_ok q' _ _) ?_); rintro _ _ ⟨rfl, rfl⟩) | with_reducible refine sg_back ?_ | with_reducible refine sw_nil ?_ | with_reducible refine sq_then ?_ | with_reducible refine sc_seq ?_ | with_reducible refine sc_region ?_ | with_reducible refine sw_guard_skip ?_ | with_reducible refine sw_guard_skip_ ?_ | with_reducible refine sw_guard_run ?_ | with_reducible refine sc_cond_true ?_ | with_reducible refine sc_cond_false ?_ | with_reducible refine sc_ret ?_ | with_reducible refine sq_then_ret ?_ | with_reducible refine sc_skip ?_ | with_reducible refine sc_block ?_ | with_reducible refine sq_block ?_ | with_reducible refine sq_block_ret ?_ | with_reducible refine sc_exit ?_ | with_reducible refine sq_then_exit ?_ | with_reducible refine sq_block_exit ?_ | with_reducible refine sq_block_past ?_ | with_reducible refine sq_round_ret ?_ | with_reducible refine sq_round_exit ?_ | fail))
      all_goals (refine sg_done (by kernel_rfl) rfl ?_)
      repeat' (first | with_reducible refine sw_op ?_ | with_reducible refine sw_op_ ?_ | with_reducible refine sw_nil ?_ | with_reducible refine sq_then ?_ | with_reducible refine sc_seq ?_ | with_reducible refine sc_region ?_ | with_reducible refine sw_guard_skip ?_ | with_reducible refine sw_guard_skip_ ?_ | with_reducible refine sw_guard_run ?_ | with_reducible refine sc_cond_true ?_ | with_reducible refine sc_cond_false ?_ | with_reducible refine sc_ret ?_ | with_reducible refine sq_then_ret ?_ | with_reducible refine sc_skip ?_ | with_reducible refine sc_block ?_ | with_reducible refine sq_block ?_ | with_reducible refine sq_block_ret ?_ | with_reducible refine sc_exit ?_ | with_reducible refine sq_then_exit ?_ | with_reducible refine sq_block_exit ?_ | with_reducible refine sq_block_past ?_ | with_reducible refine sq_round_ret ?_ | with_reducible refine sq_round_exit ?_ | fail)
      refine sq_ret_m rfl ?_
      refine sq_ret1 Try.results31 ⟨_, ⟨p', rfl, rfl⟩, Ent.trans (B := ORl p' s l' q' m1' m2' ((p, OR p s) :: F)) ?_ (OR.close hw)⟩
      unfold ORl
      repeat' (first | with_reducible exact Ent.refl _ | with_reducible refine Ent.take_eq ?_ ?_ | rfl | with_reducible refine Ent.trans (Ent.drop _ _) ?_)
  · intro r c2 pre i hN
    exact sc_false (A := (r, defers0 r) :: ([bx, kv].zip [pts bx (jbx a P.length c), rv]))
end Go.Gsl
