/- Equal, Same. -/
import Derived.Test.YtccmenekmmlboaaDisk8
namespace Go.Gsl
set_option linter.unusedVariables false
open Go.Proofs

section
variable {P : Program} {n : Nat} {w0 : World} {e : Env} {Rs F : List Res} {ty : TypeId}
theorem runop_load_rd {t : TypeId} {x : Operand} {b o o' : Nat} {xs : List Value} {r : HProp} (k i : Nat) (v : Value) [hx : Ev n e x (.pointer (some ⟨b, o', none⟩))] [hn : NonAgg P t] [tk : Take Rs k r F] (hr : Reads r (some ⟨b, o, none⟩) xs) (hv : xs[i]? = some v) (ho : o' = o + i) :
    RunOp P n w0 e Rs (.load t x) ty v := runop_load (a := ⟨b, o', none⟩) fun w hw => by
  obtain ⟨ad, h1, h2⟩ := hr.sat (k := k) hw i v hv
  cases h1
  rw [add_plain] at h2
  rw [ho]; exact h2
end

/-- slices.Equal of bytes -/
theorem eqB_ok (k1 k2 : Nat) (r1 r2 : HProp) (b1 b2 m1 c1 m2 c2 : Nat) (xs ys : List Int) (h1 : Reads r1 (some ⟨b1, 0, none⟩) (xs.map (Value.int .u8))) (h2 : Reads r2 (some ⟨b2, 0, none⟩) (ys.map (Value.int .u8))) (l1 : xs.length = m1) (l2 : ys.length = m2) (hm : m1 ≤ 4398046511104) :
    Spec Try.prog 78 [.slice (some ⟨b1, 0, none⟩) m1 c1, .slice (some ⟨b2, 0, none⟩) m2 c2] [k1, k2] [r1, r2] fun F v Rs' => v = .bool (decide (xs = ys)) ∧ Rs' = (k1, r1) :: (k2, r2) :: F := by
  subst l1 l2
  refine spec_of Try.func78 rfl Try.ntmps78 rfl ?_
  intro w0 F
  repeat' (first | with_reducible refine sw_op ?_ | with_reducible refine sw_op_ ?_ | with_reducible refine sw_nil ?_ | with_reducible refine sq_then ?_ | with_reducible refine sc_seq ?_ | with_reducible refine sc_region ?_ | with_reducible refine sw_guard_skip ?_ | with_reducible refine sw_guard_skip_ ?_ | with_reducible refine sw_guard_run ?_ | with_reducible refine sc_cond_true ?_ | with_reducible refine sc_cond_false ?_ | with_reducible refine sc_ret ?_ | with_reducible refine sq_then_ret ?_ | with_reducible refine sc_skip ?_ | with_reducible refine sc_block ?_ | with_reducible refine sq_block ?_ | with_reducible refine sq_block_ret ?_ | with_reducible refine sc_exit ?_ | with_reducible refine sq_then_exit ?_ | with_reducible refine sq_block_exit ?_ | with_reducible refine sq_block_past ?_ | with_reducible refine sq_round_ret ?_ | with_reducible refine sq_round_exit ?_ | (with_reducible refine sc_cond (fun h => ?_) (fun h => ?_)) <;> (try (exfalso; first | contradiction | omega | exact h Iff.rfl)) | fail)
  · refine sq_ret1 Try.results78 ?_
    refine ⟨_, ⟨?_, rfl⟩, Ent.refl _⟩
    rw [decide_eq_false]
    intro e; subst e; exact h rfl
  · have hl : xs.length = ys.length := by omega
    refine sc_loop (α := { i : Nat // i ≤ xs.length ∧ xs.take i = ys.take i }) (fun i => [(0, .slice (some ⟨b1, 0, none⟩) xs.length c1), (1, .slice (some ⟨b2, 0, none⟩) ys.length c2), (12, .int .i64 xs.length), (13, .int .i64 i.1)])
      (fun _ => (k1, r1) :: (k2, r2) :: F) (fun i => xs.length - i.1) ⟨0, Nat.zero_le _, rfl⟩ ?_ ?_ ?_
    · exact says_cons rfl (says_cons rfl (says_cons rfl (says_cons rfl says_nil)))
    · repeat' (first | with_reducible exact Ent.refl _ | with_reducible refine Ent.take_eq ?_ ?_ | rfl | with_reducible refine Ent.trans (Ent.drop _ _) ?_)
    · rintro ⟨i, hi, he⟩ e
      simp only [List.cons_append, List.nil_append]
      repeat' (first | with_reducible refine sw_op ?_ | with_reducible refine sw_op_ ?_ | with_reducible refine sw_nil ?_ | with_reducible refine sq_then ?_ | with_reducible refine sc_seq ?_ | with_reducible refine sc_region ?_ | with_reducible refine sw_guard_skip ?_ | with_reducible refine sw_guard_skip_ ?_ | with_reducible refine sw_guard_run ?_ | with_reducible refine sc_cond_true ?_ | with_reducible refine sc_cond_false ?_ | with_reducible refine sc_ret ?_ | with_reducible refine sq_then_ret ?_ | with_reducible refine sc_skip ?_ | with_reducible refine sc_block ?_ | with_reducible refine sq_block ?_ | with_reducible refine sq_block_ret ?_ | with_reducible refine sc_exit ?_ | with_reducible refine sq_then_exit ?_ | with_reducible refine sq_block_exit ?_ | with_reducible refine sq_block_past ?_ | with_reducible refine sq_round_ret ?_ | with_reducible refine sq_round_exit ?_ | (with_reducible refine sc_cond (fun h => ?_) (fun h => ?_)) <;> (try (exfalso; first | contradiction | omega | exact h Iff.rfl)) | fail)
      · have hlt : i < xs.length := by omega
        have hlt2 : i < ys.length := by omega
        have v1 : (xs.map (Value.int .u8))[i]? = some (.int .u8 xs[i]) := by rw [List.getElem?_map, List.getElem?_eq_getElem hlt]; rfl
        have v2 : (ys.map (Value.int .u8))[i]? = some (.int .u8 ys[i]) := by rw [List.getElem?_map, List.getElem?_eq_getElem hlt2]; rfl
        refine sc_drawG (m := 9) ([(k1, r1), (k2, r2)]) (by kernel_rfl) rfl ?_
        all_goals (first | refine sg_take 0 (by repeat' (first | with_reducible exact calm_post | with_reducible refine Calm.then ?_ | with_reducible refine Calm.block ?_ | with_reducible refine Calm.round ?_)) rfl (by kernel_rfl) (by kernel_rfl) (by kernel_rfl) ?_)
        all_goals (first | refine sg_take 1 (by repeat' (first | with_reducible exact calm_post | with_reducible refine Calm.then ?_ | with_reducible refine Calm.block ?_ | with_reducible refine Calm.round ?_)) rfl (by kernel_rfl) (by kernel_rfl) (by kernel_rfl) ?_)
        all_goals (first | refine sg_take 2 (by repeat' (first | with_reducible exact calm_post | with_reducible refine Calm.then ?_ | with_reducible refine Calm.block ?_ | with_reducible refine Calm.round ?_)) rfl (by kernel_rfl) (by kernel_rfl) (by kernel_rfl) (h := runop_idx i (by omega)) ?_ | refine sg_take 2 (by repeat' (first | with_reducible exact calm_post | with_reducible refine Calm.then ?_ | with_reducible refine Calm.block ?_ | with_reducible refine Calm.round ?_)) rfl (by kernel_rfl) (by kernel_rfl) (by kernel_rfl) ?_)
        all_goals (first | refine sg_take 3 (by repeat' (first | with_reducible exact calm_post | with_reducible refine Calm.then ?_ | with_reducible refine Calm.block ?_ | with_reducible refine Calm.round ?_)) rfl (by kernel_rfl) (by kernel_rfl) (by kernel_rfl) (h := runop_load_rd k1 i (.int .u8 xs[i]) h1 v1 (by omega)) ?_ | refine sg_take 3 (by repeat' (first | with_reducible exact calm_post | with_reducible refine Calm.then ?_ | with_reducible refine Calm.block ?_ | with_reducible refine Calm.round ?_)) rfl (by kernel_rfl) (by kernel_rfl) (by kernel_rfl) ?_)
        all_goals (first | refine sg_take 4 (by repeat' (first | with_reducible exact calm_post | with_reducible refine Calm.then ?_ | with_reducible refine Calm.block ?_ | with_reducible refine Calm.round ?_)) rfl (by kernel_rfl) (by kernel_rfl) (by kernel_rfl) ?_)
        all_goals (first | refine sg_take 5 (by repeat' (first | with_reducible exact calm_post | with_reducible refine Calm.then ?_ | with_reducible refine Calm.block ?_ | with_reducible refine Calm.round ?_)) rfl (by kernel_rfl) (by kernel_rfl) (by kernel_rfl) ?_)
        all_goals (first | refine sg_take 6 (by repeat' (first | with_reducible exact calm_post | with_reducible refine Calm.then ?_ | with_reducible refine Calm.block ?_ | with_reducible refine Calm.round ?_)) rfl (by kernel_rfl) (by kernel_rfl) (by kernel_rfl) (h := runop_idx i (by omega)) ?_ | refine sg_take 6 (by repeat' (first | with_reducible exact calm_post | with_reducible refine Calm.then ?_ | with_reducible refine Calm.block ?_ | with_reducible refine Calm.round ?_)) rfl (by kernel_rfl) (by kernel_rfl) (by kernel_rfl) ?_)
        all_goals (first | refine sg_take 7 (by repeat' (first | with_reducible exact calm_post | with_reducible refine Calm.then ?_ | with_reducible refine Calm.block ?_ | with_reducible refine Calm.round ?_)) rfl (by kernel_rfl) (by kernel_rfl) (by kernel_rfl) (h := runop_load_rd k2 i (.int .u8 ys[i]) h2 v2 (by omega)) ?_ | refine sg_take 7 (by repeat' (first | with_reducible exact calm_post | with_reducible refine Calm.then ?_ | with_reducible refine Calm.block ?_ | with_reducible refine Calm.round ?_)) rfl (by kernel_rfl) (by kernel_rfl) (by kernel_rfl) ?_)
        all_goals (first | refine sg_take 8 (by repeat' (first | with_reducible exact calm_post | with_reducible refine Calm.then ?_ | with_reducible refine Calm.block ?_ | with_reducible refine Calm.round ?_)) rfl (by kernel_rfl) (by kernel_rfl) (by kernel_rfl) ?_)
        all_goals (refine sg_done (by kernel_rfl) rfl ?_)
        repeat' (first | with_reducible refine sw_in (by omega) ?_ | with_reducible refine sw_op ?_ | with_reducible refine sw_op_ ?_ | with_reducible refine sw_nil ?_ | with_reducible refine sq_then ?_ | with_reducible refine sc_seq ?_ | with_reducible refine sc_region ?_ | with_reducible refine sw_guard_skip ?_ | with_reducible refine sw_guard_skip_ ?_ | with_reducible refine sw_guard_run ?_ | with_reducible refine sc_cond_true ?_ | with_reducible refine sc_cond_false ?_ | with_reducible refine sc_ret ?_ | with_reducible refine sq_then_ret ?_ | with_reducible refine sc_skip ?_ | with_reducible refine sc_block ?_ | with_reducible refine sq_block ?_ | with_reducible refine sq_block_ret ?_ | with_reducible refine sc_exit ?_ | with_reducible refine sq_then_exit ?_ | with_reducible refine sq_block_exit ?_ | with_reducible refine sq_block_past ?_ | with_reducible refine sq_round_ret ?_ | with_reducible refine sq_round_exit ?_ | (with_reducible refine sc_cond (fun h => ?_) (fun h => ?_)) <;> (try (exfalso; first | contradiction | omega | exact h Iff.rfl)) | fail)
        · refine sq_ret1 Try.results78 ?_
          refine ⟨_, ⟨?_, rfl⟩, Ent.refl _⟩
          rw [decide_eq_false]
          rintro rfl
          exact h rfl
        · refine sq_round ⟨i + 1, hlt, ?_⟩ ?_ ?_ ?_
          · rw [List.take_add_one, List.take_add_one, he, List.getElem?_eq_getElem hlt, List.getElem?_eq_getElem hlt2, Decidable.not_not.1 h]
          · show xs.length - (i + 1) < xs.length - i
            omega
          · exact says_cons rfl (says_cons rfl (says_cons rfl (says_cons rfl says_nil)))
          · repeat' (first | with_reducible exact Ent.refl _ | with_reducible refine Ent.take_eq ?_ ?_ | rfl | with_reducible refine Ent.trans (Ent.drop _ _) ?_)
      · refine sq_ret1 Try.results78 ?_
        refine ⟨_, ⟨?_, rfl⟩, Ent.refl _⟩
        have hi2 : i = xs.length := by omega
        subst hi2
        rw [decide_eq_true]
        rw [List.take_length, hl, List.take_length] at he
        exact he
end Go.Gsl
