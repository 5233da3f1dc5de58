/- New, Clone, Same, Dirty. -/
import Derived.Test.YtbmdaiopnnmamaaDisk2
namespace Go.Gsl
set_option linter.unusedVariables false
open Go.Proofs

/-- a new disk -/
def Dk.new (n : Nat) : Dk := ⟨List.replicate n (List.replicate 512 0), fun _ => none, false, 0, 0, []⟩
theorem zeros_wf : SecWf (List.replicate 512 0) := ⟨List.length_replicate, fun x hx => by rw [List.eq_of_mem_replicate hx]; omega⟩
theorem Dk.new_wf {n : Nat} (h1 : 1 ≤ n) (h2 : n ≤ 16384) : (Dk.new n).Wf where
  n1 := by show 1 ≤ (List.replicate n _).length; rw [List.length_replicate]; exact h1
  n2 := by show (List.replicate n _).length ≤ 16384; rw [List.length_replicate]; exact h2
  sec := fun xs hx => by rw [List.eq_of_mem_replicate hx]; exact zeros_wf
  dsec := fun i xs hx => by cases hx
  dat := fun i xs hx => by cases hx
  f1 := Int.le_refl _
  f2 := by show (0 : Int) ≤ _; decide
  k1 := by show ([] : List Bool).length ≤ _; decide

/-- sectors of noughts -/
def Zs (us : List Value) : HProp := fun h => ∀ v ∈ us, Sec v (List.replicate 512 0) h

theorem dNew_bad (n : Int) (hn : n < 1 ∨ 16384 < n) : Spec Try.prog 31 [.int .i64 n] [] [] fun F v Rs' => v = .tuple #[.pointer none, .int .i64 1] ∧ Rs' = F := by
  refine spec_of Try.func31 rfl Try.ntmps31 rfl ?_
  intro w0 F
  repeat' (first | with_reducible (first | refine sw_op ?_ | refine sw_op_ ?_) | with_reducible (first | refine sw_nil ?_ | refine sq_then ?_ | refine sc_seq ?_ | refine sc_region ?_ | refine sw_guard_skip ?_ | refine sw_guard_skip_ ?_ | refine sw_guard_run ?_ | refine sc_cond_true ?_ | refine sc_cond_false ?_ | refine sc_ret ?_ | refine sq_then_ret ?_ | refine sc_skip ?_ | refine sc_block ?_ | refine sq_block ?_ | refine sq_block_ret ?_ | refine sc_exit ?_ | refine sq_then_exit ?_ | refine sq_block_exit ?_ | refine sq_block_past ?_ | refine sq_round_ret ?_ | refine sq_round_exit ?_) | (with_reducible refine sc_cond (fun h => ?_) (fun h => ?_)) <;> (try (exfalso; first | contradiction | omega | exact h Iff.rfl)) | (with_reducible refine sw_guard_split (fun h => ?_) (fun h => ?_)) <;> (try (exfalso; first | contradiction | omega | exact h Iff.rfl)) | (with_reducible refine sw_pick (fun h => ?_) (fun h => ?_)) <;> (try (exfalso; first | contradiction | omega | exact h Iff.rfl)) | fail)
  all_goals
    refine sq_ret2 Try.results31 ?_
    exact ⟨_, ⟨rfl, rfl⟩, Ent.refl _⟩

set_option maxRecDepth 20000 in
theorem dNew_ok (n : Nat) (h1 : 1 ≤ n) (h2 : n ≤ 16384) : Spec Try.prog 31 [.int .i64 n] [] [] fun F v Rs' => ∃ p, v = .tuple #[.pointer (some ⟨p, 0, none⟩), .int .i64 0] ∧ Rs' = (p, DISK p (Dk.new n)) :: F := by
  refine spec_of Try.func31 rfl Try.ntmps31 rfl ?_
  intro w0 F
  repeat' (first | with_reducible (first | refine sw_op ?_ | refine sw_op_ ?_) | with_reducible refine sw_makeSlice n n ⟨rfl, rfl, by omega, by omega, by omega⟩ fun b => ?_ | with_reducible refine sw_makeMap (k := .i64) fun m => ?_ | with_reducible (first | refine sw_nil ?_ | refine sq_then ?_ | refine sc_seq ?_ | refine sc_region ?_ | refine sw_guard_skip ?_ | refine sw_guard_skip_ ?_ | refine sw_guard_run ?_ | refine sc_cond_true ?_ | refine sc_cond_false ?_ | refine sc_ret ?_ | refine sq_then_ret ?_ | refine sc_skip ?_ | refine sc_block ?_ | refine sq_block ?_ | refine sq_block_ret ?_ | refine sc_exit ?_ | refine sq_then_exit ?_ | refine sq_block_exit ?_ | refine sq_block_past ?_ | refine sq_round_ret ?_ | refine sq_round_exit ?_) | (with_reducible refine sc_cond (fun h => ?_) (fun h => ?_)) <;> (try (exfalso; first | contradiction | omega | exact h Iff.rfl)) | (with_reducible refine sw_guard_split (fun h => ?_) (fun h => ?_)) <;> (try (exfalso; first | contradiction | omega | exact h Iff.rfl)) | (with_reducible refine sw_pick (fun h => ?_) (fun h => ?_)) <;> (try (exfalso; first | contradiction | omega | exact h Iff.rfl)) | fail)
  refine sw_build [.slice (some ⟨b, 0, none⟩) n n, .map (some m), .bool false, .int .i64 0, .int .i64 0, .slice none 0 0] rfl ?_
  refine sw_box fun p => ?_
  repeat' (first | with_reducible (first | refine sw_op ?_ | refine sw_op_ ?_) | with_reducible (first | refine sw_nil ?_ | refine sq_then ?_ | refine sc_seq ?_ | refine sc_region ?_ | refine sw_guard_skip ?_ | refine sw_guard_skip_ ?_ | refine sw_guard_run ?_ | refine sc_cond_true ?_ | refine sc_cond_false ?_ | refine sc_ret ?_ | refine sq_then_ret ?_ | refine sc_skip ?_ | refine sc_block ?_ | refine sq_block ?_ | refine sq_block_ret ?_ | refine sc_exit ?_ | refine sq_then_exit ?_ | refine sq_block_exit ?_ | refine sq_block_past ?_ | refine sq_round_ret ?_ | refine sq_round_exit ?_) | fail)
  refine sc_ent (Ent.dup_take (k := b) (k' := b + 1) (r' := Zs []) fun _ _ => by intro v hv; cases hv) ?_
  refine sc_loop (α := { us : List Value // us.length ≤ n ∧ ∀ v ∈ us, v.oneCell' = true }) (fun us => [(4, .pointer (some ⟨p, 0, none⟩)), (21, .int .i64 n), (22, .int .i64 us.1.length)])
    (fun us => (b + 1, Zs us.1) :: (p, pts p (drow b n n m false 0 0 (.slice none 0 0))) :: (m, MapI .i64 m mnil) :: (b, pts b (.cells (us.1 ++ List.replicate (n - us.1.length) (Value.slice none 0 0)).toArray 24 (0, 0))) :: F)
    (fun us => n - us.1.length) ⟨[], by simp, by simp⟩ ?_ ?_ ?_
  · exact says_cons rfl (says_cons rfl (says_cons rfl says_nil))
  · repeat' (first | with_reducible exact Ent.refl _ | with_reducible refine Ent.take_eq ?_ ?_ | rfl | with_reducible refine Ent.trans (Ent.drop _ _) ?_)
  · rintro ⟨us, hus, hone⟩ e
    simp only [List.cons_append, List.nil_append]
    repeat' (first | with_reducible (first | refine sw_op ?_ | refine sw_op_ ?_) | with_reducible (first | refine sw_nil ?_ | refine sq_then ?_ | refine sc_seq ?_ | refine sc_region ?_ | refine sw_guard_skip ?_ | refine sw_guard_skip_ ?_ | refine sw_guard_run ?_ | refine sc_cond_true ?_ | refine sc_cond_false ?_ | refine sc_ret ?_ | refine sq_then_ret ?_ | refine sc_skip ?_ | refine sc_block ?_ | refine sq_block ?_ | refine sq_block_ret ?_ | refine sc_exit ?_ | refine sq_then_exit ?_ | refine sq_block_exit ?_ | refine sq_block_past ?_ | refine sq_round_ret ?_ | refine sq_round_exit ?_) | (with_reducible refine sc_cond (fun h => ?_) (fun h => ?_)) <;> (try (exfalso; first | contradiction | omega | exact h Iff.rfl)) | fail)
    · have hlt : us.length < n := by omega
      refine sc_drawC (m := 8) ([(p, pts p (drow b n n m false 0 0 (.slice none 0 0)))]) (by repeat' (first | with_reducible exact calm_post | with_reducible refine Calm.then ?_ | with_reducible refine Calm.block ?_ | with_reducible refine Calm.round ?_ | with_reducible refine Calm.mark ?_)) (by kernel_rfl) rfl (fun hcalm => ?_)
      all_goals (first | refine sg_take 0 hcalm rfl (by kernel_rfl) (by kernel_rfl) (by kernel_rfl) ?_)
      all_goals (first | refine sg_take 1 hcalm rfl (by kernel_rfl) (by kernel_rfl) (by kernel_rfl) ?_)
      all_goals (first | refine sg_take 2 hcalm rfl (by kernel_rfl) (by kernel_rfl) (by kernel_rfl) ?_)
      all_goals (first | refine sg_take 3 hcalm rfl (by kernel_rfl) (by kernel_rfl) (by kernel_rfl) ?_)
      all_goals (first | refine sg_take 4 hcalm rfl (by kernel_rfl) (by kernel_rfl) (by kernel_rfl) ?_)
      all_goals (refine sg_one 5 rfl (by kernel_rfl) rfl ?_)
      all_goals (repeat' (first | with_reducible (first | refine sw_op ?_ | refine sw_op_ ?_) | with_reducible refine sw_makeSlice 512 512 ⟨rfl, rfl, by omega, by omega, by omega⟩ fun b2 => ?_ | with_reducible refine sw_storeAt (by rw [List.length_append, List.length_replicate]; omega) ?_ | with_reducible refine sg_back ?_ | with_reducible (first | refine sw_nil ?_ | refine sq_then ?_ | refine sc_seq ?_ | refine sc_region ?_ | refine sw_guard_skip ?_ | refine sw_guard_skip_ ?_ | refine sw_guard_run ?_ | refine sc_cond_true ?_ | refine sc_cond_false ?_ | refine sc_ret ?_ | refine sq_then_ret ?_ | refine sc_skip ?_ | refine sc_block ?_ | refine sq_block ?_ | refine sq_block_ret ?_ | refine sc_exit ?_ | refine sq_then_exit ?_ | refine sq_block_exit ?_ | refine sq_block_past ?_ | refine sq_round_ret ?_ | refine sq_round_exit ?_) | fail))
      all_goals (first | refine sg_take 6 hcalm rfl (by kernel_rfl) (by kernel_rfl) (by kernel_rfl) (h := runop_idx us.length (by omega)) ?_ | refine sg_take 6 hcalm rfl (by kernel_rfl) (by kernel_rfl) (by kernel_rfl) ?_)
      all_goals (refine sg_one 7 rfl (by kernel_rfl) rfl ?_)
      all_goals (repeat' (first | with_reducible (first | refine sw_op ?_ | refine sw_op_ ?_) | with_reducible refine sw_makeSlice 512 512 ⟨rfl, rfl, by omega, by omega, by omega⟩ fun b2 => ?_ | with_reducible refine sw_storeAt (by rw [List.length_append, List.length_replicate]; omega) ?_ | with_reducible refine sg_back ?_ | with_reducible (first | refine sw_nil ?_ | refine sq_then ?_ | refine sc_seq ?_ | refine sc_region ?_ | refine sw_guard_skip ?_ | refine sw_guard_skip_ ?_ | refine sw_guard_run ?_ | refine sc_cond_true ?_ | refine sc_cond_false ?_ | refine sc_ret ?_ | refine sq_then_ret ?_ | refine sc_skip ?_ | refine sc_block ?_ | refine sq_block ?_ | refine sq_block_ret ?_ | refine sc_exit ?_ | refine sq_then_exit ?_ | refine sq_block_exit ?_ | refine sq_block_past ?_ | refine sq_round_ret ?_ | refine sq_round_exit ?_) | fail))
      all_goals (refine sg_done (by kernel_rfl) rfl ?_)
      refine sq_freeze (b := b2) ?_
      repeat' (first | with_reducible (first | refine sw_in (by omega) ?_ | refine sw_op ?_ | refine sw_op_ ?_) | with_reducible (first | refine sw_nil ?_ | refine sq_then ?_ | refine sc_seq ?_ | refine sc_region ?_ | refine sw_guard_skip ?_ | refine sw_guard_skip_ ?_ | refine sw_guard_run ?_ | refine sc_cond_true ?_ | refine sc_cond_false ?_ | refine sc_ret ?_ | refine sq_then_ret ?_ | refine sc_skip ?_ | refine sc_block ?_ | refine sq_block ?_ | refine sq_block_ret ?_ | refine sc_exit ?_ | refine sq_then_exit ?_ | refine sq_block_exit ?_ | refine sq_block_past ?_ | refine sq_round_ret ?_ | refine sq_round_exit ?_) | fail)
      have e1 : n - us.length = (n - (us.length + 1)) + 1 := by omega
      have e2 : (us ++ List.replicate (n - us.length) (Value.slice none 0 0)).set us.length (.slice (some ⟨b2, 0, none⟩) 512 512) = (us ++ [Value.slice (some ⟨b2, 0, none⟩) 512 512]) ++ List.replicate (n - (us.length + 1)) (Value.slice none 0 0) := by
        rw [e1, List.replicate_succ, List.set_append_right _ _ (Nat.le_refl _), Nat.sub_self, List.set_cons_zero, List.append_assoc]; rfl
      rw [e2]
      refine sq_round ⟨us ++ [Value.slice (some ⟨b2, 0, none⟩) 512 512], ?_, ?_⟩ ?_ ?_ ?_
      · rw [List.length_append, List.length_singleton]; omega
      · intro v hv
        rcases List.mem_append.1 hv with h | h
        · exact hone v h
        · rw [List.mem_singleton.1 h]; rfl
      · show n - (us ++ [Value.slice (some ⟨b2, 0, none⟩) 512 512]).length < n - us.length
        rw [List.length_append, List.length_singleton]; omega
      · exact says_cons rfl (says_cons rfl (says_cons (by simp) says_nil))
      · show Ent _ ((b + 1, Zs (us ++ [Value.slice (some ⟨b2, 0, none⟩) 512 512])) :: (p, pts p (drow b n n m false 0 0 (.slice none 0 0))) :: (m, MapI .i64 m mnil) :: (b, pts b (.cells (us ++ [Value.slice (some ⟨b2, 0, none⟩) 512 512] ++ List.replicate (n - (us ++ [Value.slice (some ⟨b2, 0, none⟩) 512 512]).length) (Value.slice none 0 0)).toArray 24 (0, 0))) :: F)
        rw [List.length_append, List.length_singleton]
        refine Ent.trans (B := (b + 1, Zs us) :: (b2, imm b2 (.cells (List.replicate 512 (Value.int .u8 0)).toArray 5 (0, 0))) :: (p, pts p (drow b n n m false 0 0 (.slice none 0 0))) :: (m, MapI .i64 m mnil) :: (b, pts b (.cells (us ++ [Value.slice (some ⟨b2, 0, none⟩) 512 512] ++ List.replicate (n - (us.length + 1)) (Value.slice none 0 0)).toArray 24 (0, 0))) :: F) ?_ (Ent.join fun x y hd hx hy v hv => ?_)
        · repeat' (first | with_reducible exact Ent.refl _ | with_reducible refine Ent.take_eq ?_ ?_ | rfl | with_reducible refine Ent.trans (Ent.drop _ _) ?_)
        · rcases List.mem_append.1 hv with h | h
          · exact (hx v h).left
          · rw [List.mem_singleton.1 h]
            refine Sec.right hd ⟨b2, [], by rw [List.length_replicate]; rfl, ?_⟩
            rw [List.map_replicate, List.append_nil]
            exact hy
    · have hl : us.length = n := by omega
      subst hl
      refine sq_ret2 Try.results31 ?_
      refine ⟨_, ⟨p, rfl, rfl⟩, Ent.trans (B := DISKl p (Dk.new us.length) ⟨b, m, b + 1, .slice none 0 0, us, [], mnil⟩ F) ?_ (DISK.close ⟨Dk.new_wf h1 h2, ?_, fun j => rfl, fun j v hv => by cases hv⟩)⟩
      · unfold DISKl
        refine Ent.trans (B := (b + 1, DPers us mnil (.slice none 0 0) (Dk.new us.length)) :: (p, pts p (drow b us.length us.length m false 0 0 (.slice none 0 0))) :: (m, MapI .i64 m mnil) :: (b, pts b (.cells (us ++ List.replicate (us.length - us.length) (Value.slice none 0 0)).toArray 24 (0, 0))) :: F) (Ent.head fun h hz => ⟨fun i v xs hv hx => ?_, fun j => ⟨rfl, fun v xs hv => by cases hv⟩, .inl ⟨rfl, rfl⟩⟩) ?_
        · have hx : (List.replicate us.length (List.replicate 512 (0 : Int)))[i]? = some xs := hx
          rw [List.getElem?_replicate] at hx
          split at hx
          · cases hx; exact hz v (List.mem_of_getElem? hv)
          · cases hx
        · rw [Nat.sub_self, List.replicate_zero]
          repeat' (first | with_reducible exact Ent.refl _ | with_reducible refine Ent.take_eq ?_ ?_ | rfl | with_reducible refine Ent.trans (Ent.drop _ _) ?_)
      · show us.length = (List.replicate us.length _).length
        rw [List.length_replicate]
end Go.Gsl
