/- Layouts: Check, the program's and the document's. -/
import Derived.Test.YtemediifhpgdgaaGreatRv1Q
namespace Go.Gsl
set_option linter.unusedVariables false
open Go.Proofs

abbrev Prt := Int × Int
abbrev pcs (ps : List Prt) : List Value := ps.flatMap fun p => [.int .i64 p.1, .int .i64 p.2]
def okP (n : Int) (p : Prt) : Prop := 0 ≤ p.1 ∧ p.1 ≤ n ∧ p.2 ≤ n - p.1
def hitP (p q : Prt) : Prop := p.1 < q.1 + q.2 ∧ q.1 < p.1 + p.2
def goodAt (ps : List Prt) (n : Int) (i : Nat) : Prop := okP n (ps.getD i (0, 0)) ∧ ∀ k, k < i → ¬ hitP (ps.getD i (0, 0)) (ps.getD k (0, 0))
def chkP (ps : List Prt) (n : Int) : Prop := ∀ i, i < ps.length → goodAt ps n i
def partsL (M L S f0 c0 f1 c1 : Int) : List Prt := [(M, 2), (L, S), (f0, c0 * 12), (f1, c1 * 12)]
open Classical in
noncomputable def checkE (M L S f0 c0 f1 c1 n : Int) : Int := if S < 2 ∨ areaE f0 c0 n ≠ 0 ∨ areaE f1 c1 n ≠ 0 then 210 else if chkP (partsL M L S f0 c0 f1 c1) n then 0 else 210
theorem pcs_at : ∀ (ps : List Prt) (i : Nat), i < ps.length → ((pcs ps).drop (i * 2)).take 2 = [.int .i64 (ps.getD i (0, 0)).1, .int .i64 (ps.getD i (0, 0)).2]
  | [], i, h => by simp at h
  | p :: ps, 0, _ => rfl
  | p :: ps, i + 1, h => by
    have ih := pcs_at ps i (by simpa using h)
    have e : pcs (p :: ps) = [.int .i64 p.1, .int .i64 p.2] ++ pcs ps := rfl
    rw [e, show (i + 1) * 2 = 2 + i * 2 by omega, ← List.drop_drop]
    exact ih
theorem checkE_bad {M L S f0 c0 f1 c1 n : Int} (h : ¬ (S < 2 ∨ areaE f0 c0 n ≠ 0 ∨ areaE f1 c1 n ≠ 0)) {i : Nat} (hi : i < 4) (hg : ¬ goodAt (partsL M L S f0 c0 f1 c1) n i) : checkE M L S f0 c0 f1 c1 n = 210 := by
  unfold checkE
  have hc : ¬ chkP (partsL M L S f0 c0 f1 c1) n := fun g => hg (g i hi)
  rw [if_neg h, if_neg hc]
theorem checkE_good {M L S f0 c0 f1 c1 n : Int} (h : ¬ (S < 2 ∨ areaE f0 c0 n ≠ 0 ∨ areaE f1 c1 n ≠ 0)) (hg : ∀ i, i < 4 → goodAt (partsL M L S f0 c0 f1 c1) n i) : checkE M L S f0 c0 f1 c1 n = 0 := by
  unfold checkE
  have hc : chkP (partsL M L S f0 c0 f1 c1) n := fun i hi => hg i hi
  rw [if_neg h, if_pos hc]
theorem checkE_no {M L S f0 c0 f1 c1 n : Int} (h : S < 2 ∨ areaE f0 c0 n ≠ 0 ∨ areaE f1 c1 n ≠ 0) : checkE M L S f0 c0 f1 c1 n = 210 := by
  unfold checkE; rw [if_pos h]
theorem areaE_ok {f c n : Int} (h : areaE f c n = 0) : 0 ≤ f ∧ 1 ≤ c ∧ c ≤ 4096 ∧ f ≤ n ∧ c * 12 ≤ n - f := by
  unfold areaE at h
  by_cases g : f < 0 ∨ c < 1 ∨ 4096 < c ∨ n < f ∨ n - f < c * 12
  · rw [if_pos g] at h; omega
  · omega
set_option maxHeartbeats 4000000 in
theorem q21Check_ok (M L S f0 c0 f1 c1 n : Int) (hM : I64 M) (hL : I64 L) (hS : I64 S) (hf0 : I64 f0) (hc0 : I64 c0) (hf1 : I64 f1) (hc1 : I64 c1) (hn : I64 n) :
    Spec Tryz.prog 9 [.agg ([.int .i64 M, .int .i64 L, .int .i64 S, .int .i64 f0, .int .i64 c0, .int .i64 f1, .int .i64 c1] : List Value).toArray, .int .i64 n] [] [] fun F v Rs' => v = .int .i64 (checkE M L S f0 c0 f1 c1 n) ∧ Rs' = F := by
  have hA0 := r19Check_ok f0 c0 n hf0 hc0 hn
  have hA1 := r19Check_ok f1 c1 n hf1 hc1 hn
  unfold I64 at *
  refine spec_of Tryz.func9 rfl Tryz.ntmps9 rfl ?_
  intro w0 F
  repeat' (first | with_reducible (first | refine go1 ?_ | refine sct ?_ | refine scf ?_ | refine sgr ?_) | with_reducible refine sw_box fun b1 => ?_ | with_reducible refine sw_indexAo 0 3 ⟨rfl, by omega, by omega⟩ (by with_unfolding_all rfl) ?_ | with_reducible refine sw_indexAo 1 5 ⟨rfl, by omega, by omega⟩ (by with_unfolding_all rfl) ?_ | with_reducible refine sw_loadPart [.int .i64 f0, .int .i64 c0] (by with_unfolding_all rfl) (by with_unfolding_all rfl) ?_ | with_reducible refine sw_loadPart [.int .i64 f1, .int .i64 c1] (by with_unfolding_all rfl) (by with_unfolding_all rfl) ?_ | ((with_reducible refine sw_callf hA0 ?_); rintro _ _ ⟨rfl, rfl⟩) | ((with_reducible refine sw_callf hA1 ?_); rintro _ _ ⟨rfl, rfl⟩) | with_reducible refine sw_guard_skip_u ?_ | (with_reducible refine sc_cond (fun h => ?_) (fun h => ?_)) <;> (try (exfalso; first | contradiction | omega | exact h Iff.rfl)) | (with_reducible refine sw_guard_split (fun h => ?_) (fun h => ?_)) <;> (try (exfalso; first | contradiction | omega | exact h Iff.rfl)) | (with_reducible refine sw_pick (fun h => ?_) (fun h => ?_)) <;> (try (exfalso; first | contradiction | omega | exact h Iff.rfl)) | fail)
  · refine sq_ret1 Tryz.results9 ?_
    refine ⟨_, ⟨by rw [checkE_no (.inl (by assumption))], rfl⟩, ?_⟩
    repeat' (first | with_reducible exact Ent.refl _ | with_reducible refine Ent.take_eq ?_ ?_ | rfl | with_reducible refine Ent.trans (Ent.drop _ _) ?_)
  · refine sq_ret1 Tryz.results9 ?_
    refine ⟨_, ⟨by rw [checkE_no (.inr (.inl (by assumption)))], rfl⟩, ?_⟩
    repeat' (first | with_reducible exact Ent.refl _ | with_reducible refine Ent.take_eq ?_ ?_ | rfl | with_reducible refine Ent.trans (Ent.drop _ _) ?_)
  · refine sq_ret1 Tryz.results9 ?_
    refine ⟨_, ⟨by rw [checkE_no (.inr (.inr (by assumption)))], rfl⟩, ?_⟩
    repeat' (first | with_reducible exact Ent.refl _ | with_reducible refine Ent.take_eq ?_ ?_ | rfl | with_reducible refine Ent.trans (Ent.drop _ _) ?_)
  have e0 : areaE f0 c0 n = 0 := Classical.not_not.1 (by assumption)
  have e1 : areaE f1 c1 n = 0 := Classical.not_not.1 (by assumption)
  have hno : ¬ (S < 2 ∨ areaE f0 c0 n ≠ 0 ∨ areaE f1 c1 n ≠ 0) := by rintro (g | g | g) <;> first | (exact absurd g (by assumption)) | exact g e0 | exact g e1
  obtain ⟨a1, a2, a3, a4, a5⟩ := areaE_ok e0
  obtain ⟨z1, z2, z3, z4, z5⟩ := areaE_ok e1
  have hbd : ∀ i, i < 4 → ¬ goodAt (partsL M L S f0 c0 f1 c1) n i → checkE M L S f0 c0 f1 c1 n = 210 := fun i hi hg => checkE_bad hno hi hg
  have hgd : (∀ i, i < 4 → goodAt (partsL M L S f0 c0 f1 c1) n i) → checkE M L S f0 c0 f1 c1 n = 0 := checkE_good hno
  have hps : ∀ i, i < 4 → (-9223372036854775808 ≤ ((partsL M L S f0 c0 f1 c1).getD i (0, 0)).1 ∧ ((partsL M L S f0 c0 f1 c1).getD i (0, 0)).1 ≤ 9223372036854775807) ∧ -9223372036854775808 ≤ ((partsL M L S f0 c0 f1 c1).getD i (0, 0)).2 ∧ ((partsL M L S f0 c0 f1 c1).getD i (0, 0)).2 ≤ 9223372036854775807 := by
    intro i hi
    match i, hi with
    | 0, _ => exact ⟨hM, by show -9223372036854775808 ≤ (2 : Int) ∧ (2 : Int) ≤ 9223372036854775807; omega⟩
    | 1, _ => exact ⟨hL, hS⟩
    | 2, _ => exact ⟨hf0, by show -9223372036854775808 ≤ c0 * 12 ∧ c0 * 12 ≤ 9223372036854775807; omega⟩
    | 3, _ => exact ⟨hf1, by show -9223372036854775808 ≤ c1 * 12 ∧ c1 * 12 ≤ 9223372036854775807; omega⟩
  clear hno e0 e1
  repeat' (first | with_reducible refine sw_in (by omega) ?_ | with_reducible (first | refine go1 ?_ | refine sct ?_ | refine scf ?_ | refine sgr ?_) | with_reducible refine sw_indexAo 0 3 ⟨rfl, by omega, by omega⟩ (by with_unfolding_all rfl) ?_ | with_reducible refine sw_indexAo 1 5 ⟨rfl, by omega, by omega⟩ (by with_unfolding_all rfl) ?_ | with_reducible refine sw_build ([.int .i64 (M), .int .i64 (2)] : List Value) (by with_unfolding_all rfl) ?_ | with_reducible refine sw_build ([.int .i64 (L), .int .i64 (S)] : List Value) (by with_unfolding_all rfl) ?_ | with_reducible refine sw_build ([.int .i64 (f0), .int .i64 (c0 * 12)] : List Value) (by with_unfolding_all rfl) ?_ | with_reducible refine sw_build ([.int .i64 (f1), .int .i64 (c1 * 12)] : List Value) (by with_unfolding_all rfl) ?_ | with_reducible refine sw_buildSliceN ([.int .i64 M, .int .i64 2, .int .i64 L, .int .i64 S, .int .i64 f0, .int .i64 (c0 * 12), .int .i64 f1, .int .i64 (c1 * 12)] : List Value) ⟨by omega, by omega, by omega⟩ (by with_unfolding_all rfl) fun b5 => ?_ | fail)
  have hpl : (partsL M L S f0 c0 f1 c1).length = 4 := rfl
  rw [show ([.int .i64 M, .int .i64 2, .int .i64 L, .int .i64 S, .int .i64 f0, .int .i64 (c0 * 12), .int .i64 f1, .int .i64 (c1 * 12)] : List Value) = pcs (partsL M L S f0 c0 f1 c1) from rfl]
  generalize (partsL M L S f0 c0 f1 c1) = ps at hbd hgd hps hpl ⊢
  generalize checkE M L S f0 c0 f1 c1 n = E at *
  refine sc_keep [1, 5, 6] fun e1 => ?_
  simp only [List.cons_append, List.nil_append]
  refine sc_loop (α := { i : Nat // i ≤ 4 ∧ ∀ j, j < i → goodAt ps n j }) (fun x => [(1, .int .i64 n), (5, .slice (some ⟨b5, 0, none⟩) 4 4), (6, .int .i64 (x.1 : Int))])
    (fun x => (b5, pts b5 (.cells (pcs ps).toArray 69 (0, 0))) :: F) (fun x => 4 - x.1) ⟨0, by omega, fun j h => by omega⟩ ?_ ?_ ?_
  · repeat' (first | exact says_nil | refine says_cons rfl ?_ | refine says_cons (by simp) ?_)
  · repeat' (first | with_reducible exact Ent.refl _ | with_reducible refine Ent.take_eq ?_ ?_ | rfl | with_reducible refine Ent.trans (Ent.drop _ _) ?_)
  rintro ⟨i, hi, hgi⟩ e
  simp only [List.cons_append, List.nil_append]
  by_cases hil : i < 4
  · have hpc := pcs_at ps i (by omega)
    have hpi := hps i hil
    have hbdi := hbd i hil
    unfold goodAt okP at hbdi
    obtain ⟨⟨p1, p2⟩, hp⟩ : ∃ p, ps.getD i (0, 0) = p := ⟨_, rfl⟩
    rw [hp] at hpc hpi hbdi
    simp only at hpc hpi hbdi
    have hrow : ∀ (b : Nat) (cs : List Value), Reads (pts b (.cells cs.toArray 69 (0, 0))) (some ⟨b, 0, none⟩) cs := fun b cs => reads_pts fun j v hj => by rw [Nat.zero_add]; exact hj
    repeat' (first | with_reducible refine sw_in (by omega) ?_ | with_reducible (first | refine go1 ?_ | refine sct ?_ | refine scf ?_ | refine sgr ?_) | with_reducible refine sw_indexN i ⟨rfl, by omega⟩ ?_ | with_reducible refine sw_load_aggR b5 (i * 2) [.int .i64 p1, .int .i64 p2] (hrow b5 _) rfl hpc (by omega) ?_ | with_reducible refine sw_alloc fun b7 => ?_ | with_reducible refine sw_store_agg ?_ | with_reducible refine sw_guard_skip_u ?_ | (with_reducible refine sc_cond (fun h => ?_) (fun h => ?_)) <;> (try (exfalso; first | contradiction | omega | exact h Iff.rfl)) | (with_reducible refine sw_guard_split (fun h => ?_) (fun h => ?_)) <;> (try (exfalso; first | contradiction | omega | exact h Iff.rfl)) | (with_reducible refine sw_pick (fun h => ?_) (fun h => ?_)) <;> (try (exfalso; first | contradiction | omega | exact h Iff.rfl)) | fail)
    · refine sq_ret1 Tryz.results9 ?_
      refine ⟨_, ⟨by rw [hbdi (by rintro ⟨⟨g1, g2, g3⟩, -⟩; omega)], rfl⟩, ?_⟩
      repeat' (first | with_reducible exact Ent.refl _ | with_reducible refine Ent.take_eq ?_ ?_ | rfl | with_reducible refine Ent.trans (Ent.drop _ _) ?_)
    · refine sq_ret1 Tryz.results9 ?_
      refine ⟨_, ⟨by rw [hbdi (by rintro ⟨⟨g1, g2, g3⟩, -⟩; omega)], rfl⟩, ?_⟩
      repeat' (first | with_reducible exact Ent.refl _ | with_reducible refine Ent.take_eq ?_ ?_ | rfl | with_reducible refine Ent.trans (Ent.drop _ _) ?_)
    · refine sq_ret1 Tryz.results9 ?_
      refine ⟨_, ⟨by rw [hbdi (by rintro ⟨⟨g1, g2, g3⟩, -⟩; omega)], rfl⟩, ?_⟩
      repeat' (first | with_reducible exact Ent.refl _ | with_reducible refine Ent.take_eq ?_ ?_ | rfl | with_reducible refine Ent.trans (Ent.drop _ _) ?_)
    have hok : okP n (p1, p2) := ⟨by simp only; omega, by simp only; omega, by simp only; omega⟩
    refine sc_loop (α := { k : Nat // k ≤ i ∧ ∀ j, j < k → ¬ hitP (p1, p2) (ps.getD j (0, 0)) }) (fun x => [(1, .int .i64 n), (5, .slice (some ⟨b5, 0, none⟩) 4 4), (6, .int .i64 (i : Int)), (7, .pointer (some ⟨b7, 0, none⟩)), (8, .int .i64 (x.1 : Int))])
      (fun x => (b7, pts b7 (.cells [.int .i64 p1, .int .i64 p2].toArray 69 (0, 0))) :: (b5, pts b5 (.cells (pcs ps).toArray 69 (0, 0))) :: F) (fun x => i - x.1) ⟨0, by omega, fun j h => by omega⟩ ?_ ?_ ?_
    · repeat' (first | exact says_nil | refine says_cons rfl ?_ | refine says_cons (by simp) ?_)
    · repeat' (first | with_reducible exact Ent.refl _ | with_reducible refine Ent.take_eq ?_ ?_ | rfl | with_reducible refine Ent.trans (Ent.drop _ _) ?_)
    rintro ⟨k, hk, hgk⟩ e
    simp only [List.cons_append, List.nil_append]
    by_cases hki : k < i
    · have hqc := pcs_at ps k (by omega)
      have hqi := hps k (by omega)
      have hqg := (hgi k hki).1
      unfold okP at hqg
      have hnk := fun h => hbdi fun g => g.2 k hki h
      obtain ⟨⟨q1, q2⟩, hq⟩ : ∃ q, ps.getD k (0, 0) = q := ⟨_, rfl⟩
      rw [hq] at hqc hqi hqg hnk
      simp only at hqc hqi hqg
      unfold hitP at hnk
      repeat' (first | with_reducible refine sw_in (by omega) ?_ | with_reducible (first | refine go1 ?_ | refine sct ?_ | refine scf ?_ | refine sgr ?_) | with_reducible refine sw_indexN k ⟨rfl, by omega⟩ ?_ | with_reducible refine sw_load_aggR b5 (k * 2) [.int .i64 q1, .int .i64 q2] (hrow b5 _) rfl hqc (by omega) ?_ | with_reducible refine sw_alloc fun b9 => ?_ | with_reducible refine sw_store_agg ?_ | with_reducible refine sw_guard_skip_u ?_ | (with_reducible refine sc_cond (fun h => ?_) (fun h => ?_)) <;> (try (exfalso; first | contradiction | omega | exact h Iff.rfl)) | (with_reducible refine sw_guard_split (fun h => ?_) (fun h => ?_)) <;> (try (exfalso; first | contradiction | omega | exact h Iff.rfl)) | (with_reducible refine sw_pick (fun h => ?_) (fun h => ?_)) <;> (try (exfalso; first | contradiction | omega | exact h Iff.rfl)) | fail)
      · refine sq_ret1 Tryz.results9 ?_
        refine ⟨_, ⟨by rw [hnk ⟨by assumption, by assumption⟩], rfl⟩, ?_⟩
        repeat' (first | with_reducible exact Ent.refl _ | with_reducible refine Ent.take_eq ?_ ?_ | rfl | with_reducible refine Ent.trans (Ent.drop _ _) ?_)
      · refine sq_round ⟨k + 1, by omega, fun j hj => ?_⟩ (by show i - (k + 1) < i - k; omega) ?_ ?_
        · rcases Nat.lt_succ_iff_lt_or_eq.1 hj with g | rfl
          · exact hgk j g
          · rw [hq]; rintro ⟨g1, g2⟩; simp only at g1 g2; omega
        · repeat' (first | exact says_nil | refine says_cons rfl ?_ | refine says_cons (by simp) ?_)
        · repeat' (first | with_reducible exact Ent.refl _ | with_reducible refine Ent.take_eq ?_ ?_ | rfl | with_reducible refine Ent.trans (Ent.drop _ _) ?_)
      · refine sq_round ⟨k + 1, by omega, fun j hj => ?_⟩ (by show i - (k + 1) < i - k; omega) ?_ ?_
        · rcases Nat.lt_succ_iff_lt_or_eq.1 hj with g | rfl
          · exact hgk j g
          · rw [hq]; rintro ⟨g1, g2⟩; simp only at g1 g2; omega
        · repeat' (first | exact says_nil | refine says_cons rfl ?_ | refine says_cons (by simp) ?_)
        · repeat' (first | with_reducible exact Ent.refl _ | with_reducible refine Ent.take_eq ?_ ?_ | rfl | with_reducible refine Ent.trans (Ent.drop _ _) ?_)
    · repeat' (first | with_reducible refine sw_in (by omega) ?_ | with_reducible (first | refine go1 ?_ | refine sct ?_ | refine scf ?_ | refine sgr ?_) | (with_reducible refine sc_cond (fun h => ?_) (fun h => ?_)) <;> (try (exfalso; first | contradiction | omega | exact h Iff.rfl)) | fail)
      refine sq_round ⟨i + 1, by omega, fun j hj => ?_⟩ (by show 4 - (i + 1) < 4 - i; omega) ?_ ?_
      · rcases Nat.lt_succ_iff_lt_or_eq.1 hj with g | rfl
        · exact hgi j g
        · unfold goodAt
          rw [hp]
          exact ⟨hok, fun k' hk' => hgk k' (by omega)⟩
      · repeat' (first | exact says_nil | refine says_cons rfl ?_ | refine says_cons (by simp) ?_)
      · repeat' (first | with_reducible exact Ent.refl _ | with_reducible refine Ent.take_eq ?_ ?_ | rfl | with_reducible refine Ent.trans (Ent.drop _ _) ?_)
  · repeat' (first | with_reducible (first | refine go1 ?_ | refine sct ?_ | refine scf ?_ | refine sgr ?_) | (with_reducible refine sc_cond (fun h => ?_) (fun h => ?_)) <;> (try (exfalso; first | contradiction | omega | exact h Iff.rfl)) | fail)
    refine sq_ret1 Tryz.results9 ?_
    refine ⟨_, ⟨by rw [hgd fun j hj => hgi j (by omega)], rfl⟩, ?_⟩
    repeat' (first | with_reducible exact Ent.refl _ | with_reducible refine Ent.take_eq ?_ ?_ | rfl | with_reducible refine Ent.trans (Ent.drop _ _) ?_)
end Go.Gsl
