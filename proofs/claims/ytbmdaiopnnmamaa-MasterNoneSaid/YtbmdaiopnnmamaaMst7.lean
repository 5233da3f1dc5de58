/- Masters: a disk on which one is written and read. -/
import Derived.Test.YtbmdaiopnnmamaaMst6
import Derived.Test.YtbmdaiopnnmamaaDiskC
namespace Go.Gsl
set_option linter.unusedVariables false
open Go.Proofs

def Ms.first : Ms := ⟨1, 0, 1, 0, 0, 0, 0, 0⟩
theorem first_in : Ms.first.In := by
  intro x hx
  simp only [Ms.l, Ms.first, List.mem_cons, List.not_mem_nil, or_false] at hx
  unfold I64; omega
theorem l20first_ok : Spec Try.prog 36 [] [] [] fun F v Rs' => v = .agg Ms.first.cs.toArray ∧ Rs' = F := by
  refine spec_of Try.func36 rfl Try.ntmps36 rfl ?_
  intro w0 F
  repeat' (first | with_reducible (first | refine sw_op ?_ | refine sw_op_ ?_) | with_reducible (first | refine sw_nil ?_ | refine sq_then ?_ | refine sc_seq ?_ | refine sc_region ?_ | refine sw_guard_skip ?_ | refine sw_guard_skip_ ?_ | refine sw_guard_run ?_ | refine sc_cond_true ?_ | refine sc_cond_false ?_ | refine sc_ret ?_ | refine sq_then_ret ?_ | refine sc_skip ?_ | refine sc_block ?_ | refine sq_block ?_ | refine sq_block_ret ?_ | refine sc_exit ?_ | refine sq_then_exit ?_ | refine sq_block_exit ?_ | refine sq_block_past ?_ | refine sq_round_ret ?_ | refine sq_round_exit ?_) | fail)
  refine sw_alloc fun b => ?_
  repeat' (first | with_reducible (first | refine sw_op ?_ | refine sw_op_ ?_) | with_reducible (first | refine sw_nil ?_ | refine sq_then ?_ | refine sc_seq ?_ | refine sc_region ?_ | refine sw_guard_skip ?_ | refine sw_guard_skip_ ?_ | refine sw_guard_run ?_ | refine sc_cond_true ?_ | refine sc_cond_false ?_ | refine sc_ret ?_ | refine sq_then_ret ?_ | refine sc_skip ?_ | refine sc_block ?_ | refine sq_block ?_ | refine sq_block_ret ?_ | refine sc_exit ?_ | refine sq_then_exit ?_ | refine sq_block_exit ?_ | refine sq_block_past ?_ | refine sq_round_ret ?_ | refine sq_round_exit ?_) | fail)
  refine sw_build Ms.first.cs (by kernel_rfl) ?_
  refine sw_store_agg ?_
  repeat' (first | with_reducible (first | refine sw_op ?_ | refine sw_op_ ?_) | with_reducible (first | refine sw_nil ?_ | refine sq_then ?_ | refine sc_seq ?_ | refine sc_region ?_ | refine sw_guard_skip ?_ | refine sw_guard_skip_ ?_ | refine sw_guard_run ?_ | refine sc_cond_true ?_ | refine sc_cond_false ?_ | refine sc_ret ?_ | refine sq_then_ret ?_ | refine sc_skip ?_ | refine sc_block ?_ | refine sq_block ?_ | refine sq_block_ret ?_ | refine sc_exit ?_ | refine sq_then_exit ?_ | refine sq_block_exit ?_ | refine sq_block_past ?_ | refine sq_round_ret ?_ | refine sq_round_exit ?_) | fail)
  refine sq_resA Try.results36 (by first | exact .inl rfl | exact .inr rfl) rfl ?_
  exact ⟨_, ⟨rfl, rfl⟩, Ent.drop _ _⟩

theorem parse_zeros : parseM (List.replicate 512 0) = (Ms.zero, 200) := by kernel_rfl
theorem parse_first : parseM Ms.first.sec = (Ms.first, 0) := by kernel_rfl

theorem merge_at (g : Int → Option (List Int)) (ss : List (List Int)) (i : Nat) (h : i < ss.length) : (mergeS g ss)[i]? = some ((g i).getD (ss[i]?.getD [])) := by
  unfold mergeS
  rw [List.getElem?_mapIdx, List.getElem?_eq_getElem h]
  rfl
/-- the sectors after a write that is sure -/
theorem now_written {s : Dk} {a : Int} {xs : List Int} (i : Nat) (hi : i < s.sure.length) : (s.wrote a xs).barred.now i = if (i : Int) = a then xs else s.now i := by
  have e1 : (s.wrote a xs).barred.now i = ((mergeS (s.wrote a xs).dirty s.sure)[i]?).getD [] := rfl
  rw [e1, merge_at _ _ _ hi]
  show ((if (i : Int) = a then some xs else s.dirty i).getD ((s.sure[i]?).getD [])) = _
  split
  · rfl
  · rfl
theorem looks_written {s : Dk} {a : Int} {xs : List Int} (i : Int) : (s.wrote a xs).barred.looks i = s.looks i := by
  unfold Dk.looks
  have e1 : (s.wrote a xs).barred.down = s.down := rfl
  have e2 : (s.wrote a xs).barred.sure.length = s.sure.length := by
    show (mergeS (s.wrote a xs).dirty s.sure).length = _
    unfold mergeS; rw [List.length_mapIdx]
  rw [e1, e2]

def dkf (s : Dk) : Int → List Int × Int := fun a => (s.now a, s.looks a)
theorem begun_one (i : Int) (h : i = 0 ∨ i = 1) : one (dkf (Dk.new 4)) 0 i = (Ms.zero, 200) := by
  have h1 : (dkf (Dk.new 4) (0 + i)) = (List.replicate 512 0, 0) := by
    rcases h with rfl | rfl <;> rfl
  unfold one
  rw [h1, parse_zeros]
  rfl
theorem begun_write {s' : Dk} {e : Int} (h : MW (Dk.new 4) 0 Ms.first s' e) : e = 0 ∧ one (dkf s') 0 0 = (Ms.zero, 200) ∧ one (dkf s') 0 1 = (Ms.first, 0) := by
  have hc : Ms.first.chk = 0 := by decide
  have hp : Ms.first.place 0 = 1 := by decide
  have hl : (Dk.new 4).looks 1 = 0 := by decide
  rcases h with ⟨h, _⟩ | ⟨_, h, _⟩ | ⟨_, _, h, _⟩ | ⟨_, _, _, h, _⟩ | ⟨_, _, _, _, rfl, rfl⟩
  · exact absurd hc h
  · rw [hp] at h; exact absurd hl h
  · exact absurd h (by decide)
  · exact absurd h (by rw [hp]; decide)
  · rw [hp]
    refine ⟨rfl, ?_, ?_⟩
    · have h1 : (dkf ((Dk.new 4).wrote 1 Ms.first.sec).barred (0 + 0)) = (List.replicate 512 0, 0) := by
        have a1 := now_written (s := Dk.new 4) (a := 1) (xs := Ms.first.sec) 0 (by decide)
        have a2 := looks_written (s := Dk.new 4) (a := 1) (xs := Ms.first.sec) 0
        unfold dkf
        rw [show ((0 : Int) + 0) = ((0 : Nat) : Int) from rfl, a1]
        rw [show (((0 : Nat) : Int)) = 0 from rfl, a2]
        rfl
      unfold one
      rw [h1, parse_zeros]
      rfl
    · have h1 : (dkf ((Dk.new 4).wrote 1 Ms.first.sec).barred (0 + 1)) = (Ms.first.sec, 0) := by
        have a1 := now_written (s := Dk.new 4) (a := 1) (xs := Ms.first.sec) 1 (by decide)
        have a2 := looks_written (s := Dk.new 4) (a := 1) (xs := Ms.first.sec) 1
        unfold dkf
        rw [show ((0 : Int) + 1) = ((1 : Nat) : Int) from rfl, a1]
        rw [show (((1 : Nat) : Int)) = 1 from rfl, a2]
        rfl
      unfold one
      rw [h1, parse_first]
      rfl

theorem dNew_4 : Spec Try.prog 31 [.int .i64 4] [] [] fun F v Rs' => ∃ p, v = .tuple #[.pointer (some ⟨p, 0, none⟩), .int .i64 0] ∧ Rs' = (p, DISK p (Dk.new 4)) :: F := dNew_ok 4 (by omega) (by omega)

theorem l20begun_ok : Spec Try.prog 19 [] [] [] fun F v Rs' => v = .bool true ∧ Rs' = F := by
  refine spec_of Try.func19 rfl Try.ntmps19 rfl ?_
  intro w0 F
  repeat' (first | with_reducible (first | refine sw_op ?_ | refine sw_op_ ?_) | with_reducible (first | refine sw_nil ?_ | refine sq_then ?_ | refine sc_seq ?_ | refine sc_region ?_ | refine sw_guard_skip ?_ | refine sw_guard_skip_ ?_ | refine sw_guard_run ?_ | refine sc_cond_true ?_ | refine sc_cond_false ?_ | refine sc_ret ?_ | refine sq_then_ret ?_ | refine sc_skip ?_ | refine sc_block ?_ | refine sq_block ?_ | refine sq_block_ret ?_ | refine sc_exit ?_ | refine sq_then_exit ?_ | refine sq_block_exit ?_ | refine sq_block_past ?_ | refine sq_round_ret ?_ | refine sq_round_exit ?_) | fail)
  refine sw_call dNew_4 ?_
  rintro _ _ ⟨p, rfl, rfl⟩
  repeat' (first | with_reducible (first | refine sw_op ?_ | refine sw_op_ ?_) | with_reducible refine sw_guard_skip_u ?_ | with_reducible (first | refine sw_nil ?_ | refine sq_then ?_ | refine sc_seq ?_ | refine sc_region ?_ | refine sw_guard_skip ?_ | refine sw_guard_skip_ ?_ | refine sw_guard_run ?_ | refine sc_cond_true ?_ | refine sc_cond_false ?_ | refine sc_ret ?_ | refine sq_then_ret ?_ | refine sc_skip ?_ | refine sc_block ?_ | refine sq_block ?_ | refine sq_block_ret ?_ | refine sc_exit ?_ | refine sq_then_exit ?_ | refine sq_block_exit ?_ | refine sq_block_past ?_ | refine sq_round_ret ?_ | refine sq_round_exit ?_) | (with_reducible refine sw_guard_split (fun h => ?_) (fun h => ?_)) <;> (try (exfalso; first | contradiction | omega | exact h Iff.rfl)) | (with_reducible refine sc_cond (fun h => ?_) (fun h => ?_)) <;> (try (exfalso; first | contradiction | omega | exact h Iff.rfl)) | (with_reducible refine sw_pick (fun h => ?_) (fun h => ?_)) <;> (try (exfalso; first | contradiction | omega | exact h Iff.rfl)) | fail)
  refine sw_call (mRead_ok _ p _ (dkf (Dk.new 4)) (rd_disk p (Dk.new 4)) 0 (by omega)) ?_
  rintro _ _ ⟨rfl, rfl⟩
  have h1 : readM (one (dkf (Dk.new 4)) 0 0) (one (dkf (Dk.new 4)) 0 1) = (Ms.zero, 200) := by
    rw [begun_one 0 (.inl rfl), begun_one 1 (.inr rfl)]; rfl
  rw [h1]
  repeat' (first | with_reducible (first | refine sw_op ?_ | refine sw_op_ ?_) | ((with_reducible refine sw_call l20first_ok ?_); rintro _ _ ⟨rfl, rfl⟩) | with_reducible (first | refine sw_nil ?_ | refine sq_then ?_ | refine sc_seq ?_ | refine sc_region ?_ | refine sw_guard_skip ?_ | refine sw_guard_skip_ ?_ | refine sw_guard_run ?_ | refine sc_cond_true ?_ | refine sc_cond_false ?_ | refine sc_ret ?_ | refine sq_then_ret ?_ | refine sc_skip ?_ | refine sc_block ?_ | refine sq_block ?_ | refine sq_block_ret ?_ | refine sc_exit ?_ | refine sq_then_exit ?_ | refine sq_block_exit ?_ | refine sq_block_past ?_ | refine sq_round_ret ?_ | refine sq_round_exit ?_) | fail)
  refine sw_call (mWrite_ok p (Dk.new 4) 0 Ms.first first_in (by omega)) ?_
  rintro _ _ ⟨s', e, hMW, rfl, rfl⟩
  obtain ⟨rfl, h2, h3⟩ := begun_write hMW
  repeat' (first | with_reducible (first | refine sw_op ?_ | refine sw_op_ ?_) | with_reducible (first | refine sw_nil ?_ | refine sq_then ?_ | refine sc_seq ?_ | refine sc_region ?_ | refine sw_guard_skip ?_ | refine sw_guard_skip_ ?_ | refine sw_guard_run ?_ | refine sc_cond_true ?_ | refine sc_cond_false ?_ | refine sc_ret ?_ | refine sq_then_ret ?_ | refine sc_skip ?_ | refine sc_block ?_ | refine sq_block ?_ | refine sq_block_ret ?_ | refine sc_exit ?_ | refine sq_then_exit ?_ | refine sq_block_exit ?_ | refine sq_block_past ?_ | refine sq_round_ret ?_ | refine sq_round_exit ?_) | fail)
  refine sw_call (mRead_ok _ p _ (dkf s') (rd_disk p s') 0 (by omega)) ?_
  rintro _ _ ⟨rfl, rfl⟩
  have h4 : readM (one (dkf s') 0 0) (one (dkf s') 0 1) = (Ms.first, 0) := by rw [h2, h3]; rfl
  rw [h4]
  clear hMW h1 h2 h3 h4
  repeat' (first | with_reducible (first | refine sw_op ?_ | refine sw_op_ ?_) | with_reducible (first | refine sw_nil ?_ | refine sq_then ?_ | refine sc_seq ?_ | refine sc_region ?_ | refine sw_guard_skip ?_ | refine sw_guard_skip_ ?_ | refine sw_guard_run ?_ | refine sc_cond_true ?_ | refine sc_cond_false ?_ | refine sc_ret ?_ | refine sq_then_ret ?_ | refine sc_skip ?_ | refine sc_block ?_ | refine sq_block ?_ | refine sq_block_ret ?_ | refine sc_exit ?_ | refine sq_then_exit ?_ | refine sq_block_exit ?_ | refine sq_block_past ?_ | refine sq_round_ret ?_ | refine sq_round_exit ?_) | fail)
  refine sw_alloc fun b => ?_
  refine sw_store_agg ?_
  repeat' (first | with_reducible (first | refine sw_op ?_ | refine sw_op_ ?_) | with_reducible (first | refine sw_nil ?_ | refine sq_then ?_ | refine sc_seq ?_ | refine sc_region ?_ | refine sw_guard_skip ?_ | refine sw_guard_skip_ ?_ | refine sw_guard_run ?_ | refine sc_cond_true ?_ | refine sc_cond_false ?_ | refine sc_ret ?_ | refine sq_then_ret ?_ | refine sc_skip ?_ | refine sc_block ?_ | refine sq_block ?_ | refine sq_block_ret ?_ | refine sc_exit ?_ | refine sq_then_exit ?_ | refine sq_block_exit ?_ | refine sq_block_past ?_ | refine sq_round_ret ?_ | refine sq_round_exit ?_) | fail)
  refine sc_drawC (m := 16) ([(b, pts b (.cells Ms.first.cs.toArray 34 (0, 0)))]) (by repeat' (first | with_reducible exact calm_post | with_reducible refine Calm.then ?_ | with_reducible refine Calm.block ?_ | with_reducible refine Calm.round ?_ | with_reducible refine Calm.mark ?_)) (by kernel_rfl) rfl (fun hcalm => ?_)
  all_goals (first | refine sg_take 0 hcalm rfl (by kernel_rfl) (by kernel_rfl) (by kernel_rfl) ?_)
  all_goals (first | refine sg_take 1 hcalm rfl (by kernel_rfl) (by kernel_rfl) (by kernel_rfl) ?_)
  all_goals (first | refine sg_take 2 hcalm rfl (by kernel_rfl) (by kernel_rfl) (by kernel_rfl) ?_)
  all_goals (first | (first | refine sg_skip 3 hcalm rfl (by kernel_rfl) (by kernel_rfl) (by kernel_rfl) ?_ | refine sg_take_g 3 hcalm rfl (by kernel_rfl) (by kernel_rfl) (by kernel_rfl) ?_) | refine sg_skip_u 3 hcalm rfl (by kernel_rfl) (by kernel_rfl) (by kernel_rfl) ?_ | ((refine sg_split 31 (fun h => ?_) (fun h => ?_)) <;> (try (exfalso; first | contradiction | omega | exact h Iff.rfl)) <;> (first | refine sg_skip 3 hcalm rfl (by kernel_rfl) (by kernel_rfl) (by kernel_rfl) ?_ | refine sg_take_g 3 hcalm rfl (by kernel_rfl) (by kernel_rfl) (by kernel_rfl) ?_)))
  all_goals (first | (first | refine sg_skip 4 hcalm rfl (by kernel_rfl) (by kernel_rfl) (by kernel_rfl) ?_ | refine sg_take_g 4 hcalm rfl (by kernel_rfl) (by kernel_rfl) (by kernel_rfl) ?_) | refine sg_skip_u 4 hcalm rfl (by kernel_rfl) (by kernel_rfl) (by kernel_rfl) ?_ | ((refine sg_split 31 (fun h => ?_) (fun h => ?_)) <;> (try (exfalso; first | contradiction | omega | exact h Iff.rfl)) <;> (first | refine sg_skip 4 hcalm rfl (by kernel_rfl) (by kernel_rfl) (by kernel_rfl) ?_ | refine sg_take_g 4 hcalm rfl (by kernel_rfl) (by kernel_rfl) (by kernel_rfl) ?_)))
  all_goals (first | refine sg_take 5 hcalm rfl (by kernel_rfl) (by kernel_rfl) (by kernel_rfl) ?_ | ((refine sg_split 31 (fun h => ?_) (fun h => ?_)) <;> (try (exfalso; first | contradiction | omega | exact h Iff.rfl)) <;> refine sg_take 5 hcalm rfl (by kernel_rfl) (by kernel_rfl) (by kernel_rfl) ?_))
  all_goals (first | refine sg_take 6 hcalm rfl (by kernel_rfl) (by kernel_rfl) (by kernel_rfl) ?_)
  all_goals (first | (first | refine sg_skip 7 hcalm rfl (by kernel_rfl) (by kernel_rfl) (by kernel_rfl) ?_ | refine sg_take_g 7 hcalm rfl (by kernel_rfl) (by kernel_rfl) (by kernel_rfl) ?_) | refine sg_skip_u 7 hcalm rfl (by kernel_rfl) (by kernel_rfl) (by kernel_rfl) ?_ | ((refine sg_split 35 (fun h => ?_) (fun h => ?_)) <;> (try (exfalso; first | contradiction | omega | exact h Iff.rfl)) <;> (first | refine sg_skip 7 hcalm rfl (by kernel_rfl) (by kernel_rfl) (by kernel_rfl) ?_ | refine sg_take_g 7 hcalm rfl (by kernel_rfl) (by kernel_rfl) (by kernel_rfl) ?_)))
  all_goals (first | (first | refine sg_skip 8 hcalm rfl (by kernel_rfl) (by kernel_rfl) (by kernel_rfl) ?_ | refine sg_take_g 8 hcalm rfl (by kernel_rfl) (by kernel_rfl) (by kernel_rfl) ?_) | refine sg_skip_u 8 hcalm rfl (by kernel_rfl) (by kernel_rfl) (by kernel_rfl) ?_ | ((refine sg_split 35 (fun h => ?_) (fun h => ?_)) <;> (try (exfalso; first | contradiction | omega | exact h Iff.rfl)) <;> (first | refine sg_skip 8 hcalm rfl (by kernel_rfl) (by kernel_rfl) (by kernel_rfl) ?_ | refine sg_take_g 8 hcalm rfl (by kernel_rfl) (by kernel_rfl) (by kernel_rfl) ?_)))
  all_goals (first | refine sg_take 9 hcalm rfl (by kernel_rfl) (by kernel_rfl) (by kernel_rfl) ?_ | ((refine sg_split 35 (fun h => ?_) (fun h => ?_)) <;> (try (exfalso; first | contradiction | omega | exact h Iff.rfl)) <;> refine sg_take 9 hcalm rfl (by kernel_rfl) (by kernel_rfl) (by kernel_rfl) ?_))
  all_goals (first | refine sg_take 10 hcalm rfl (by kernel_rfl) (by kernel_rfl) (by kernel_rfl) ?_)
  all_goals (first | (first | refine sg_skip 11 hcalm rfl (by kernel_rfl) (by kernel_rfl) (by kernel_rfl) ?_ | refine sg_take_g 11 hcalm rfl (by kernel_rfl) (by kernel_rfl) (by kernel_rfl) ?_) | refine sg_skip_u 11 hcalm rfl (by kernel_rfl) (by kernel_rfl) (by kernel_rfl) ?_ | ((refine sg_split 39 (fun h => ?_) (fun h => ?_)) <;> (try (exfalso; first | contradiction | omega | exact h Iff.rfl)) <;> (first | refine sg_skip 11 hcalm rfl (by kernel_rfl) (by kernel_rfl) (by kernel_rfl) ?_ | refine sg_take_g 11 hcalm rfl (by kernel_rfl) (by kernel_rfl) (by kernel_rfl) ?_)))
  all_goals (refine sg_one 12 rfl (by kernel_rfl) rfl ?_)
  all_goals (repeat' (first | with_reducible (first | refine sw_op ?_ | refine sw_op_ ?_) | ((with_reducible refine sw_call l20first_ok ?_); rintro _ _ ⟨rfl, rfl⟩) | with_reducible refine sg_back ?_ | with_reducible (first | refine sw_nil ?_ | refine sq_then ?_ | refine sc_seq ?_ | refine sc_region ?_ | refine sw_guard_skip ?_ | refine sw_guard_skip_ ?_ | refine sw_guard_run ?_ | refine sc_cond_true ?_ | refine sc_cond_false ?_ | refine sc_ret ?_ | refine sq_then_ret ?_ | refine sc_skip ?_ | refine sc_block ?_ | refine sq_block ?_ | refine sq_block_ret ?_ | refine sc_exit ?_ | refine sq_then_exit ?_ | refine sq_block_exit ?_ | refine sq_block_past ?_ | refine sq_round_ret ?_ | refine sq_round_exit ?_) | fail))
  all_goals (first | (first | refine sg_skip 13 hcalm rfl (by kernel_rfl) (by kernel_rfl) (by kernel_rfl) ?_ | refine sg_take_g 13 hcalm rfl (by kernel_rfl) (by kernel_rfl) (by kernel_rfl) ?_) | refine sg_skip_u 13 hcalm rfl (by kernel_rfl) (by kernel_rfl) (by kernel_rfl) ?_ | ((refine sg_split 39 (fun h => ?_) (fun h => ?_)) <;> (try (exfalso; first | contradiction | omega | exact h Iff.rfl)) <;> (first | refine sg_skip 13 hcalm rfl (by kernel_rfl) (by kernel_rfl) (by kernel_rfl) ?_ | refine sg_take_g 13 hcalm rfl (by kernel_rfl) (by kernel_rfl) (by kernel_rfl) ?_)))
  all_goals (first | refine sg_take 14 hcalm rfl (by kernel_rfl) (by kernel_rfl) (by kernel_rfl) ?_ | ((refine sg_split 39 (fun h => ?_) (fun h => ?_)) <;> (try (exfalso; first | contradiction | omega | exact h Iff.rfl)) <;> refine sg_take 14 hcalm rfl (by kernel_rfl) (by kernel_rfl) (by kernel_rfl) ?_))
  all_goals (first | refine sg_take 15 hcalm rfl (by kernel_rfl) (by kernel_rfl) (by kernel_rfl) ?_)
  all_goals (refine sg_done (by kernel_rfl) rfl ?_)
  repeat' (first | with_reducible (first | refine sw_op ?_ | refine sw_op_ ?_) | with_reducible (first | refine sw_nil ?_ | refine sq_then ?_ | refine sc_seq ?_ | refine sc_region ?_ | refine sw_guard_skip ?_ | refine sw_guard_skip_ ?_ | refine sw_guard_run ?_ | refine sc_cond_true ?_ | refine sc_cond_false ?_ | refine sc_ret ?_ | refine sq_then_ret ?_ | refine sc_skip ?_ | refine sc_block ?_ | refine sq_block ?_ | refine sq_block_ret ?_ | refine sc_exit ?_ | refine sq_then_exit ?_ | refine sq_block_exit ?_ | refine sq_block_past ?_ | refine sq_round_ret ?_ | refine sq_round_exit ?_) | fail)
  refine sq_ret1 Try.results19 ?_
  refine ⟨_, ⟨?_, rfl⟩, ?_⟩
  · rfl
  · repeat' (first | with_reducible exact Ent.refl _ | with_reducible refine Ent.take_eq ?_ ?_ | rfl | with_reducible refine Ent.trans (Ent.drop _ _) ?_)
end Go.Gsl
