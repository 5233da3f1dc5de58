/- Layouts: the program's Check. -/
import Derived.Test.YtemediifhpgdgaaGreatRv2Q
import Derived.Test.YtemediifhpgdgaaGreatGW
namespace Go.Gsl
set_option linter.unusedVariables false
open Go.Proofs
section
variable {P : Program} {ops : List Oper} {Q : Cont} {n : Nat} {w0 : World} {rest : List Oper} {e : Env} {Rs F : List Res} {ty : TypeId}
/-- an element of an array's value, that is a struct -/
theorem sw_indexVa {d : Nat} {t et : TypeId} {x y : Operand} {cs : List Value} {k : IntKind} {i : Int} {m sz : Nat} {pos : String} {after : Array Edge} (j : Nat) (vs : List Value) [hx : Ev n e x (.agg cs.toArray)] [hy : Ev n e y (.int k i)] [hu : Und P t (.array m et)] [ha : IsAggT P et] [hs : SizeOf P et sz]
    (h : i = j ∧ j < m) (hv : (cs.drop (j * sz)).take sz = vs)
    (q : SW P ops Q n w0 rest ((d, .agg vs.toArray) :: e) Rs) : SW P ops Q n w0 ({ dst := some d, op := .index t x y, type := ty, pos := pos, after := after, guard := none } :: rest) e Rs := by
  obtain ⟨rfl, hj⟩ := h
  refine sw_op (h := @RunOp.pure P n w0 e Rs _ _ _ ⟨fun o h1 _ w => ?_⟩) q
  unfold execOp; rw [h1]
  have h2 : (0 : Int) ≤ (j : Int) ∧ (j : Int) < (m : Int) := by omega
  simp [hx.out, hy.out, Instr.index, asIntOf, run_und (t := t), hj, hs.out, part, ha.out, hv]
end
theorem one2 (a b : Int) : ∀ v ∈ [Value.int .i64 a, .int .i64 b], v.oneCell' = true := by
  intro v hv
  simp only [List.mem_cons, List.not_mem_nil, or_false] at hv
  rcases hv with rfl | rfl <;> rfl
set_option maxHeartbeats 4000000 in
theorem rvCheck_ok (M L S f0 c0 f1 c1 n : Int) (hM : I64 M) (hL : I64 L) (hS : I64 S) (hf0 : I64 f0) (hc0 : I64 c0) (hf1 : I64 f1) (hc1 : I64 c1) (hn : I64 n) :
    Spec Tryz.prog 8 [.agg ([.int .i64 M, .int .i64 L, .int .i64 S, .int .i64 f0, .int .i64 c0, .int .i64 f1, .int .i64 c1] : List Value).toArray, .int .i64 n] [] [] fun F v Rs' => v = .int .i64 (checkE M L S f0 c0 f1 c1 n) ∧ Rs' = F := by
  have hA0 := ckCheck_ok f0 c0 n hf0 hc0 hn
  have hA1 := ckCheck_ok f1 c1 n hf1 hc1 hn
  unfold I64 at *
  refine spec_of Tryz.func8 rfl Tryz.ntmps8 rfl ?_
  intro w0 F
  repeat' (first | with_reducible (first | refine go1 ?_ | refine sct ?_ | refine scf ?_ | refine sgr ?_) | with_reducible refine sw_box fun b1 => ?_ | with_reducible refine sw_indexAo 0 3 ⟨rfl, by omega, by omega⟩ (by with_unfolding_all rfl) ?_ | with_reducible refine sw_indexAo 1 5 ⟨rfl, by omega, by omega⟩ (by with_unfolding_all rfl) ?_ | with_reducible refine sw_loadPart [.int .i64 f0, .int .i64 c0] (by with_unfolding_all rfl) (by with_unfolding_all rfl) ?_ | with_reducible refine sw_loadPart [.int .i64 f1, .int .i64 c1] (by with_unfolding_all rfl) (by with_unfolding_all rfl) ?_ | ((with_reducible refine sw_callf hA0 ?_); rintro _ _ ⟨rfl, rfl⟩) | ((with_reducible refine sw_callf hA1 ?_); rintro _ _ ⟨rfl, rfl⟩) | with_reducible refine sw_guard_skip_u ?_ | (with_reducible refine sc_cond (fun h => ?_) (fun h => ?_)) <;> (try (exfalso; first | contradiction | omega | exact h Iff.rfl)) | (with_reducible refine sw_guard_split (fun h => ?_) (fun h => ?_)) <;> (try (exfalso; first | contradiction | omega | exact h Iff.rfl)) | (with_reducible refine sw_pick (fun h => ?_) (fun h => ?_)) <;> (try (exfalso; first | contradiction | omega | exact h Iff.rfl)) | fail)
  · refine sq_ret1 Tryz.results8 ?_
    refine ⟨_, ⟨by rw [checkE_no (.inl (by assumption))], rfl⟩, ?_⟩
    repeat' (first | with_reducible exact Ent.refl _ | with_reducible refine Ent.take_eq ?_ ?_ | rfl | with_reducible refine Ent.oR ?_ | with_reducible refine Ent.trans (Ent.drop _ _) ?_)
  · refine sq_ret1 Tryz.results8 ?_
    refine ⟨_, ⟨by rw [checkE_no (.inr (.inl (by assumption)))], rfl⟩, ?_⟩
    repeat' (first | with_reducible exact Ent.refl _ | with_reducible refine Ent.take_eq ?_ ?_ | rfl | with_reducible refine Ent.oR ?_ | with_reducible refine Ent.trans (Ent.drop _ _) ?_)
  · refine sq_ret1 Tryz.results8 ?_
    refine ⟨_, ⟨by rw [checkE_no (.inr (.inr (by assumption)))], rfl⟩, ?_⟩
    repeat' (first | with_reducible exact Ent.refl _ | with_reducible refine Ent.take_eq ?_ ?_ | rfl | with_reducible refine Ent.oR ?_ | with_reducible refine Ent.trans (Ent.drop _ _) ?_)
  have e0 : areaE f0 c0 n = 0 := Classical.not_not.1 (by assumption)
  have e1 : areaE f1 c1 n = 0 := Classical.not_not.1 (by assumption)
  have hno : ¬ (S < 2 ∨ areaE f0 c0 n ≠ 0 ∨ areaE f1 c1 n ≠ 0) := by rintro (g | g | g) <;> first | (exact absurd g (by assumption)) | exact g e0 | exact g e1
  obtain ⟨a1, a2, a3, a4, a5⟩ := areaE_ok e0
  obtain ⟨z1, z2, z3, z4, z5⟩ := areaE_ok e1
  have hbd : ∀ i, i < 4 → ¬ goodAt (partsL M L S f0 c0 f1 c1) n i → checkE M L S f0 c0 f1 c1 n = 210 := fun i hi hg => checkE_bad hno hi hg
  have hgd : (∀ i, i < 4 → goodAt (partsL M L S f0 c0 f1 c1) n i) → checkE M L S f0 c0 f1 c1 n = 0 := checkE_good hno
  have hps : ∀ i, i < 4 → (-9223372036854775808 ≤ ((partsL M L S f0 c0 f1 c1).getD i (0, 0)).1 ∧ ((partsL M L S f0 c0 f1 c1).getD i (0, 0)).1 ≤ 9223372036854775807) ∧ -9223372036854775808 ≤ ((partsL M L S f0 c0 f1 c1).getD i (0, 0)).2 ∧ ((partsL M L S f0 c0 f1 c1).getD i (0, 0)).2 ≤ 9223372036854775807 := by
    intro i hi
    match i, hi with
    | 0, _ => exact ⟨hM, by show -9223372036854775808 ≤ (2 : Int) ∧ (2 : Int) ≤ 9223372036854775807; omega⟩
    | 1, _ => exact ⟨hL, hS⟩
    | 2, _ => exact ⟨hf0, by show -9223372036854775808 ≤ c0 * 12 ∧ c0 * 12 ≤ 9223372036854775807; omega⟩
    | 3, _ => exact ⟨hf1, by show -9223372036854775808 ≤ c1 * 12 ∧ c1 * 12 ≤ 9223372036854775807; omega⟩
  clear hno e0 e1
  have hpl : (partsL M L S f0 c0 f1 c1).length = 4 := rfl
  have hpa : (partsL M L S f0 c0 f1 c1) = [(M, 2), (L, S), (f0, c0 * 12), (f1, c1 * 12)] := rfl
  generalize (partsL M L S f0 c0 f1 c1) = ps at hbd hgd hps hpl hpa
  generalize checkE M L S f0 c0 f1 c1 n = E at *
  repeat' (first | with_reducible (first | refine go1 ?_ | refine sct ?_ | refine scf ?_ | refine sgr ?_) | with_reducible refine sw_build ([.int .i64 (M), .int .i64 (2)] : List Value) (by with_unfolding_all rfl) ?_ | with_reducible refine sw_build ([.int .i64 (L), .int .i64 (S)] : List Value) (by with_unfolding_all rfl) ?_ | with_reducible refine sw_buildSliceN ([.int .i64 M, .int .i64 2, .int .i64 L, .int .i64 S] : List Value) ⟨by omega, by omega, by omega⟩ (by with_unfolding_all rfl) fun b5 => ?_ | with_reducible refine sw_loadPart [.int .i64 f0, .int .i64 c0, .int .i64 f1, .int .i64 c1] (by with_unfolding_all rfl) (by with_unfolding_all rfl) ?_ | fail)
  have hs0 : pcs (ps.take 2) = [.int .i64 M, .int .i64 2, .int .i64 L, .int .i64 S] := by rw [hpa]; rfl
  have hs1 : pcs (ps.take 3) = pcs (ps.take 2) ++ [.int .i64 f0, .int .i64 (c0 * 12)] := by rw [hpa]; rfl
  have hs2 : pcs (ps.take 4) = pcs (ps.take 3) ++ [.int .i64 f1, .int .i64 (c1 * 12)] := by rw [hpa]; rfl
  rw [← hs0]
  refine sc_keep [1, 5, 41, 42] fun e1 => ?_
  simp only [List.cons_append, List.nil_append]
  refine sc_loop (α := { x : Nat × Option (Nat × Nat × List Value) // x.1 ≤ 2 ∧ NOk 2 (pcs (ps.take (2 + x.1))) (2 + x.1) x.2 }) (fun x => [(1, .int .i64 n), (5, nV (2 + x.1.1) x.1.2), (41, .agg ([.int .i64 f0, .int .i64 c0, .int .i64 f1, .int .i64 c1] : List Value).toArray), (42, .int .i64 (x.1.1 : Int))])
    (fun x => oR (nG 66 (pcs (ps.take (2 + x.1.1)))) F x.1.2) (fun x => 2 - x.1.1) ⟨(0, some (b5, 2, [])), by omega, ⟨by show (pcs (ps.take 2)).length = 2 * 2; rw [hs0]; rfl, fun h => (by cases h), fun b c t h => (by cases h; exact ⟨Nat.le_refl _, by show (pcs (ps.take 2) ++ []).length = 2 * 2; rw [hs0]; rfl⟩)⟩⟩ ?_ ?_ ?_
  · repeat' (first | exact says_nil | refine says_cons rfl ?_ | refine says_cons (by simp) ?_)
  · show Ent _ ((b5, pts b5 (.cells (pcs (ps.take 2) ++ []).toArray 66 (0, 0))) :: F)
    rw [List.append_nil]
    repeat' (first | with_reducible exact Ent.refl _ | with_reducible refine Ent.take_eq ?_ ?_ | rfl | with_reducible refine Ent.oR ?_ | with_reducible refine Ent.trans (Ent.drop _ _) ?_)
  rintro ⟨⟨i, o⟩, hi, hN⟩ e
  dsimp only at hi hN
  simp only [List.cons_append, List.nil_append]
  rcases (show i = 0 ∨ i = 1 ∨ i = 2 by omega) with rfl | rfl | rfl
  · repeat' (first | with_reducible refine sw_in (by omega) ?_ | with_reducible (first | refine go1 ?_ | refine sct ?_ | refine scf ?_ | refine sgr ?_) | with_reducible refine sw_indexVa 0 [.int .i64 f0, .int .i64 c0] ⟨rfl, by omega⟩ (by with_unfolding_all rfl) ?_ | with_reducible refine sw_alloc fun b7 => ?_ | with_reducible refine sw_store_agg ?_ | with_reducible refine sw_build [.int .i64 f0, .int .i64 (c0 * 12)] (by with_unfolding_all rfl) ?_ | with_reducible refine sw_buildSliceN [.int .i64 f0, .int .i64 (c0 * 12)] ⟨by omega, by omega, by omega⟩ (by with_unfolding_all rfl) fun b8 => ?_ | (with_reducible refine sc_cond (fun h => ?_) (fun h => ?_)) <;> (try (exfalso; first | contradiction | omega | exact h Iff.rfl)) | fail)
    refine sw_appendNV (sz := 2) (b7 := b8) (pcs (ps.take (2 + 0))) [.int .i64 f0, .int .i64 (c0 * 12)] (2 + 0) o hN (one2 _ _) rfl (by omega) ⟨rfl, by omega, by omega⟩ fun o2 ho2 hN2 => ?_
    rw [← show pcs (ps.take (2 + 0 + 1)) = pcs (ps.take (2 + 0)) ++ [.int .i64 f0, .int .i64 (c0 * 12)] from hs1] at hN2 ⊢
    repeat' (first | with_reducible refine sw_in (by omega) ?_ | with_reducible (first | refine go1 ?_ | refine sct ?_ | refine scf ?_ | refine sgr ?_) | fail)
    refine sq_round ⟨(0 + 1, o2), by dsimp only; omega, hN2⟩ (by show 2 - (0 + 1) < 2 - 0; omega) ?_ ?_
    · show says _ [(1, .int .i64 n), (5, nV (2 + 0 + 1) o2), (41, .agg ([.int .i64 f0, .int .i64 c0, .int .i64 f1, .int .i64 c1] : List Value).toArray), (42, .int .i64 ((0 + 1 : Nat) : Int))]
      repeat' (first | exact says_nil | refine says_cons rfl ?_ | refine says_cons (by simp) ?_)
    · show Ent _ (oR (nG 66 (pcs (ps.take (2 + 0 + 1)))) F o2)
      refine oR.ent ?_ o2
      repeat' (first | with_reducible exact Ent.refl _ | with_reducible refine Ent.take_eq ?_ ?_ | rfl | with_reducible refine Ent.oR ?_ | with_reducible refine Ent.trans (Ent.drop _ _) ?_)
  · repeat' (first | with_reducible refine sw_in (by omega) ?_ | with_reducible (first | refine go1 ?_ | refine sct ?_ | refine scf ?_ | refine sgr ?_) | with_reducible refine sw_indexVa 1 [.int .i64 f1, .int .i64 c1] ⟨rfl, by omega⟩ (by with_unfolding_all rfl) ?_ | with_reducible refine sw_alloc fun b7 => ?_ | with_reducible refine sw_store_agg ?_ | with_reducible refine sw_build [.int .i64 f1, .int .i64 (c1 * 12)] (by with_unfolding_all rfl) ?_ | with_reducible refine sw_buildSliceN [.int .i64 f1, .int .i64 (c1 * 12)] ⟨by omega, by omega, by omega⟩ (by with_unfolding_all rfl) fun b8 => ?_ | (with_reducible refine sc_cond (fun h => ?_) (fun h => ?_)) <;> (try (exfalso; first | contradiction | omega | exact h Iff.rfl)) | fail)
    refine sw_appendNV (sz := 2) (b7 := b8) (pcs (ps.take (2 + 1))) [.int .i64 f1, .int .i64 (c1 * 12)] (2 + 1) o hN (one2 _ _) rfl (by omega) ⟨rfl, by omega, by omega⟩ fun o2 ho2 hN2 => ?_
    rw [← show pcs (ps.take (2 + 1 + 1)) = pcs (ps.take (2 + 1)) ++ [.int .i64 f1, .int .i64 (c1 * 12)] from hs2] at hN2 ⊢
    repeat' (first | with_reducible refine sw_in (by omega) ?_ | with_reducible (first | refine go1 ?_ | refine sct ?_ | refine scf ?_ | refine sgr ?_) | fail)
    refine sq_round ⟨(1 + 1, o2), by dsimp only; omega, hN2⟩ (by show 2 - (1 + 1) < 2 - 1; omega) ?_ ?_
    · show says _ [(1, .int .i64 n), (5, nV (2 + 1 + 1) o2), (41, .agg ([.int .i64 f0, .int .i64 c0, .int .i64 f1, .int .i64 c1] : List Value).toArray), (42, .int .i64 ((1 + 1 : Nat) : Int))]
      repeat' (first | exact says_nil | refine says_cons rfl ?_ | refine says_cons (by simp) ?_)
    · show Ent _ (oR (nG 66 (pcs (ps.take (2 + 1 + 1)))) F o2)
      refine oR.ent ?_ o2
      repeat' (first | with_reducible exact Ent.refl _ | with_reducible refine Ent.take_eq ?_ ?_ | rfl | with_reducible refine Ent.oR ?_ | with_reducible refine Ent.trans (Ent.drop _ _) ?_)
  obtain ⟨b5, c2, t2, rfl⟩ : ∃ b c t, o = some (b, c, t) := by
    cases o with
    | none => have := (hN.2.1 rfl).2; omega
    | some q => exact ⟨q.1, q.2.1, q.2.2, rfl⟩
  obtain ⟨hc4, hcl⟩ := hN.2.2 _ _ _ rfl
  have hps4 : pcs (ps.take (2 + 2)) = pcs ps := by rw [hpa]; rfl
  rw [nG_some, show nV (2 + 2) (some (b5, c2, t2)) = .slice (some ⟨b5, 0, none⟩) 4 c2 from rfl]
  repeat' (first | with_reducible (first | refine go1 ?_ | refine sct ?_ | refine scf ?_ | refine sgr ?_) | (with_reducible refine sc_cond (fun h => ?_) (fun h => ?_)) <;> (try (exfalso; first | contradiction | omega | exact h Iff.rfl)) | fail)
  rw [hps4]
  clear hs0 hs1 hs2 hpa
  refine sc_keep [1, 5, 55, 56, 57] fun e1 => ?_
  simp only [List.cons_append, List.nil_append]
  have hrow : Reads (pts b5 (.cells (pcs ps ++ t2).toArray 66 (0, 0))) (some ⟨b5, 0, none⟩) (pcs ps) := reads_pts fun j v hj => by rw [Nat.zero_add, List.getElem?_append_left (List.getElem?_eq_some_iff.1 hj).1]; exact hj
  refine sc_loop (α := { i : Nat // i ≤ 4 ∧ ∀ j, j < i → goodAt ps n j }) (fun x => [(1, .int .i64 n), (5, (.slice (some ⟨b5, 0, none⟩) 4 c2)), (55, (.slice (some ⟨b5, 0, none⟩) 4 c2)), (56, .int .i64 ((4 : Nat) : Int)), (57, .int .i64 (x.1 : Int))])
    (fun x => (b5, pts b5 (.cells (pcs ps ++ t2).toArray 66 (0, 0))) :: F) (fun x => 4 - x.1) ⟨0, by omega, fun j h => by omega⟩ ?_ ?_ ?_
  · repeat' (first | exact says_nil | refine says_cons rfl ?_ | refine says_cons (by simp) ?_)
  · repeat' (first | with_reducible exact Ent.refl _ | with_reducible refine Ent.take_eq ?_ ?_ | rfl | with_reducible refine Ent.oR ?_ | with_reducible refine Ent.trans (Ent.drop _ _) ?_)
  rintro ⟨i, hi, hgi⟩ e
  simp only [List.cons_append, List.nil_append]
  by_cases hil : i < 4
  · have hpc := pcs_at ps i (by omega)
    have hpi := hps i hil
    have hbdi := hbd i hil
    unfold goodAt okP at hbdi
    obtain ⟨⟨p1, p2⟩, hp⟩ : ∃ p, ps.getD i (0, 0) = p := ⟨_, rfl⟩
    rw [hp] at hpc hpi hbdi
    simp only at hpc hpi hbdi
    repeat' (first | with_reducible refine sw_in (by omega) ?_ | with_reducible (first | refine go1 ?_ | refine sct ?_ | refine scf ?_ | refine sgr ?_) | with_reducible refine sw_indexN i ⟨rfl, by omega⟩ ?_ | (with_reducible refine sc_cond (fun h => ?_) (fun h => ?_)) <;> (try (exfalso; first | contradiction | omega | exact h Iff.rfl)) | fail)
    refine sw_load_aggR b5 (i * 2) [.int .i64 p1, .int .i64 p2] hrow rfl hpc (by omega) ?_
    repeat' (first | with_reducible refine sw_in (by omega) ?_ | with_reducible (first | refine go1 ?_ | refine sct ?_ | refine scf ?_ | refine sgr ?_) | with_reducible refine sw_alloc fun b7 => ?_ | with_reducible refine sw_store_agg ?_ | with_reducible refine sw_op (h := runop_sliceN 0 i c2 0 (by omega) ⟨rfl, rfl, rfl, by split <;> rfl⟩) ?_ | with_reducible refine sw_guard_skip_u ?_ | (with_reducible refine sc_cond (fun h => ?_) (fun h => ?_)) <;> (try (exfalso; first | contradiction | omega | exact h Iff.rfl)) | (with_reducible refine sw_guard_split (fun h => ?_) (fun h => ?_)) <;> (try (exfalso; first | contradiction | omega | exact h Iff.rfl)) | (with_reducible refine sw_pick (fun h => ?_) (fun h => ?_)) <;> (try (exfalso; first | contradiction | omega | exact h Iff.rfl)) | fail)
    · refine sq_ret1 Tryz.results8 ?_
      refine ⟨_, ⟨by rw [hbdi (by rintro ⟨⟨g1, g2, g3⟩, -⟩; omega)], rfl⟩, ?_⟩
      repeat' (first | with_reducible exact Ent.refl _ | with_reducible refine Ent.take_eq ?_ ?_ | rfl | with_reducible refine Ent.oR ?_ | with_reducible refine Ent.trans (Ent.drop _ _) ?_)
    · refine sq_ret1 Tryz.results8 ?_
      refine ⟨_, ⟨by rw [hbdi (by rintro ⟨⟨g1, g2, g3⟩, -⟩; omega)], rfl⟩, ?_⟩
      repeat' (first | with_reducible exact Ent.refl _ | with_reducible refine Ent.take_eq ?_ ?_ | rfl | with_reducible refine Ent.oR ?_ | with_reducible refine Ent.trans (Ent.drop _ _) ?_)
    · refine sq_ret1 Tryz.results8 ?_
      refine ⟨_, ⟨by rw [hbdi (by rintro ⟨⟨g1, g2, g3⟩, -⟩; omega)], rfl⟩, ?_⟩
      repeat' (first | with_reducible exact Ent.refl _ | with_reducible refine Ent.take_eq ?_ ?_ | rfl | with_reducible refine Ent.oR ?_ | with_reducible refine Ent.trans (Ent.drop _ _) ?_)
    have hok : okP n (p1, p2) := ⟨by simp only; omega, by simp only; omega, by simp only; omega⟩
    refine sc_loop (α := { k : Nat // k ≤ i ∧ ∀ j, j < k → ¬ hitP (p1, p2) (ps.getD j (0, 0)) }) (fun x => [(1, .int .i64 n), (5, (.slice (some ⟨b5, 0, none⟩) 4 c2)), (9, .pointer (some ⟨b7, 0, none⟩)), (55, (.slice (some ⟨b5, 0, none⟩) 4 c2)), (56, .int .i64 ((4 : Nat) : Int)), (57, .int .i64 (i : Int)), (82, .slice (some ⟨b5, 0, none⟩) (i - 0) (c2 - 0)), (83, .int .i64 ((i - 0 : Nat) : Int)), (84, .int .i64 (x.1 : Int))])
      (fun x => (b7, pts b7 (.cells [.int .i64 p1, .int .i64 p2].toArray 66 (0, 0))) :: (b5, pts b5 (.cells (pcs ps ++ t2).toArray 66 (0, 0))) :: F) (fun x => i - x.1) ⟨0, by omega, fun j h => by omega⟩ ?_ ?_ ?_
    · repeat' (first | exact says_nil | refine says_cons rfl ?_ | refine says_cons (by simp) ?_)
    · repeat' (first | with_reducible exact Ent.refl _ | with_reducible refine Ent.take_eq ?_ ?_ | rfl | with_reducible refine Ent.oR ?_ | with_reducible refine Ent.trans (Ent.drop _ _) ?_)
    rintro ⟨k, hk, hgk⟩ e
    simp only [List.cons_append, List.nil_append]
    by_cases hki : k < i
    · have hqc := pcs_at ps k (by omega)
      have hqi := hps k (by omega)
      have hqg := (hgi k hki).1
      unfold okP at hqg
      have hnk := fun h => hbdi fun g => g.2 k hki h
      obtain ⟨⟨q1, q2⟩, hq⟩ : ∃ q, ps.getD k (0, 0) = q := ⟨_, rfl⟩
      rw [hq] at hqc hqi hqg hnk
      simp only at hqc hqi hqg
      unfold hitP at hnk
      repeat' (first | with_reducible refine sw_in (by omega) ?_ | with_reducible (first | refine go1 ?_ | refine sct ?_ | refine scf ?_ | refine sgr ?_) | with_reducible refine sw_indexN k ⟨rfl, by omega⟩ ?_ | (with_reducible refine sc_cond (fun h => ?_) (fun h => ?_)) <;> (try (exfalso; first | contradiction | omega | exact h Iff.rfl)) | fail)
      refine sw_load_aggR b5 (k * 2) [.int .i64 q1, .int .i64 q2] hrow rfl hqc (by omega) ?_
      repeat' (first | with_reducible refine sw_in (by omega) ?_ | with_reducible (first | refine go1 ?_ | refine sct ?_ | refine scf ?_ | refine sgr ?_) | with_reducible refine sw_alloc fun b9 => ?_ | with_reducible refine sw_store_agg ?_ | with_reducible refine sw_guard_skip_u ?_ | (with_reducible refine sc_cond (fun h => ?_) (fun h => ?_)) <;> (try (exfalso; first | contradiction | omega | exact h Iff.rfl)) | (with_reducible refine sw_guard_split (fun h => ?_) (fun h => ?_)) <;> (try (exfalso; first | contradiction | omega | exact h Iff.rfl)) | (with_reducible refine sw_pick (fun h => ?_) (fun h => ?_)) <;> (try (exfalso; first | contradiction | omega | exact h Iff.rfl)) | fail)
      · refine sq_ret1 Tryz.results8 ?_
        refine ⟨_, ⟨by rw [hnk ⟨by assumption, by assumption⟩], rfl⟩, ?_⟩
        repeat' (first | with_reducible exact Ent.refl _ | with_reducible refine Ent.take_eq ?_ ?_ | rfl | with_reducible refine Ent.oR ?_ | with_reducible refine Ent.trans (Ent.drop _ _) ?_)
      · refine sq_round ⟨k + 1, by omega, fun j hj => ?_⟩ (by show i - (k + 1) < i - k; omega) ?_ ?_
        · rcases Nat.lt_succ_iff_lt_or_eq.1 hj with g | rfl
          · exact hgk j g
          · rw [hq]; rintro ⟨g1, g2⟩; simp only at g1 g2; omega
        · repeat' (first | exact says_nil | refine says_cons rfl ?_ | refine says_cons (by simp) ?_)
        · repeat' (first | with_reducible exact Ent.refl _ | with_reducible refine Ent.take_eq ?_ ?_ | rfl | with_reducible refine Ent.oR ?_ | with_reducible refine Ent.trans (Ent.drop _ _) ?_)
      · refine sq_round ⟨k + 1, by omega, fun j hj => ?_⟩ (by show i - (k + 1) < i - k; omega) ?_ ?_
        · rcases Nat.lt_succ_iff_lt_or_eq.1 hj with g | rfl
          · exact hgk j g
          · rw [hq]; rintro ⟨g1, g2⟩; simp only at g1 g2; omega
        · repeat' (first | exact says_nil | refine says_cons rfl ?_ | refine says_cons (by simp) ?_)
        · repeat' (first | with_reducible exact Ent.refl _ | with_reducible refine Ent.take_eq ?_ ?_ | rfl | with_reducible refine Ent.oR ?_ | with_reducible refine Ent.trans (Ent.drop _ _) ?_)
    · repeat' (first | with_reducible refine sw_in (by omega) ?_ | with_reducible (first | refine go1 ?_ | refine sct ?_ | refine scf ?_ | refine sgr ?_) | (with_reducible refine sc_cond (fun h => ?_) (fun h => ?_)) <;> (try (exfalso; first | contradiction | omega | exact h Iff.rfl)) | fail)
      refine sq_round ⟨i + 1, by omega, fun j hj => ?_⟩ (by show 4 - (i + 1) < 4 - i; omega) ?_ ?_
      · rcases Nat.lt_succ_iff_lt_or_eq.1 hj with g | rfl
        · exact hgi j g
        · unfold goodAt
          rw [hp]
          exact ⟨hok, fun k' hk' => hgk k' (by omega)⟩
      · repeat' (first | exact says_nil | refine says_cons rfl ?_ | refine says_cons (by simp) ?_)
      · repeat' (first | with_reducible exact Ent.refl _ | with_reducible refine Ent.take_eq ?_ ?_ | rfl | with_reducible refine Ent.oR ?_ | with_reducible refine Ent.trans (Ent.drop _ _) ?_)
  · repeat' (first | with_reducible (first | refine go1 ?_ | refine sct ?_ | refine scf ?_ | refine sgr ?_) | (with_reducible refine sc_cond (fun h => ?_) (fun h => ?_)) <;> (try (exfalso; first | contradiction | omega | exact h Iff.rfl)) | fail)
    refine sq_ret1 Tryz.results8 ?_
    refine ⟨_, ⟨by rw [hgd fun j hj => hgi j (by omega)], rfl⟩, ?_⟩
    repeat' (first | with_reducible exact Ent.refl _ | with_reducible refine Ent.take_eq ?_ ?_ | rfl | with_reducible refine Ent.oR ?_ | with_reducible refine Ent.trans (Ent.drop _ _) ?_)
end Go.Gsl
