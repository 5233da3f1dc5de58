/- What is dirty, in order. -/
import Derived.Test.YtbmdaiopnnmamaaDisk2
import Derived.Test.YtbmdaiopnnmamaaGsl13
namespace Go.Gsl
set_option linter.unusedVariables false
open Go.Proofs Go.Shelf

shelf_lay Lays.n189 Nm 189 at Try as Try.laysSort

theorem sortI_ok (b c : Nat) (zs : List Int) (r : List Value) (t : TypeId) (hl : zs.length < 4611686018427387904) :
    Spec Try.prog 113 [.slice (some ⟨b, 0, none⟩) zs.length c] [b] [pts b (.cells (zs.map (Value.int .i64) ++ r).toArray t (0, 0))] fun F v Rs' => v = .tuple #[] ∧
      Rs' = (b, pts b (.cells ((zs.mergeSort leI).map (Value.int .i64) ++ r).toArray t (0, 0))) :: F := sort_spec Try.laysSort b c zs r t hl
theorem sortI_nil (a : Option Addr) (c : Nat) : Spec Try.prog 113 [.slice a 0 c] [] [] fun F v Rs' => v = .tuple #[] ∧ Rs' = F := sort_spec_nil Try.laysSort a c

abbrev mbx (m : Nat) : Obj := .cells [.map (some m)].toArray 42 (0, 0)

/-- maps.Keys's iterator -/
theorem keysBi_iter (bx m : Nat) (f : Int → Option Value) : IterC Try.prog 116 [.pointer (some ⟨bx, 0, none⟩)] [bx, m] [pts bx (mbx m), MapI .i64 m f] (Value.int .i64) (fun pre i => (f i).isSome = true ∧ i ∉ pre) (fun xs => xs.Nodup ∧ ∀ i, i ∈ xs ↔ (f i).isSome = true) := by
  intro l J Jx hY
  refine spec_of Try.func116 rfl Try.ntmps116 rfl ?_
  intro w0 F
  repeat' (first | with_reducible (first | refine sw_op ?_ | refine sw_op_ ?_) | with_reducible (first | refine sw_nil ?_ | refine sq_then ?_ | refine sc_seq ?_ | refine sc_region ?_ | refine sw_guard_skip ?_ | refine sw_guard_skip_ ?_ | refine sw_guard_run ?_ | refine sc_cond_true ?_ | refine sc_cond_false ?_ | refine sc_ret ?_ | refine sq_then_ret ?_ | refine sc_skip ?_ | refine sc_block ?_ | refine sq_block ?_ | refine sq_block_ret ?_ | refine sc_exit ?_ | refine sq_then_exit ?_ | refine sq_block_exit ?_ | refine sq_block_past ?_ | refine sq_round_ret ?_ | refine sq_round_exit ?_) | fail)
  refine sw_range (k := .i64) fun r N => ?_
  repeat' (first | with_reducible (first | refine sw_op ?_ | refine sw_op_ ?_) | with_reducible (first | refine sw_nil ?_ | refine sq_then ?_ | refine sc_seq ?_ | refine sc_region ?_ | refine sw_guard_skip ?_ | refine sw_guard_skip_ ?_ | refine sw_guard_run ?_ | refine sc_cond_true ?_ | refine sc_cond_false ?_ | refine sc_ret ?_ | refine sq_then_ret ?_ | refine sc_skip ?_ | refine sc_block ?_ | refine sq_block ?_ | refine sq_block_ret ?_ | refine sc_exit ?_ | refine sq_then_exit ?_ | refine sq_block_exit ?_ | refine sq_block_past ?_ | refine sq_round_ret ?_ | refine sq_round_exit ?_) | fail)
  refine sc_loop (α := { D : List (Int × Value) // (D.map (·.1)).Nodup ∧ ∀ i v, (i, v) ∈ D → f i = some v }) (fun D => [(0, .func (.yield l) #[] #[]), (5, .pointer (some ⟨r, 0, none⟩))])
    (fun D => (r, ItI .i64 m r f N D.1) :: (bx, pts bx (mbx m)) :: (l, J (D.1.map (·.1))) :: F) (fun D => N - D.1.length) ⟨[], by simp, by simp⟩ ?_ ?_ ?_
  · exact says_cons rfl (says_cons rfl says_nil)
  · repeat' (first | with_reducible exact Ent.refl _ | with_reducible refine Ent.take_eq ?_ ?_ | rfl | with_reducible refine Ent.trans (Ent.drop _ _) ?_)
  · rintro ⟨D, hn, hD⟩ e
    simp only
    simp only [List.cons_append, List.nil_append]
    refine sc_seq ?_
    refine sc_region ?_
    refine sw_next ?_ ?_
    · intro hall
      repeat' (first | with_reducible (first | refine sw_op ?_ | refine sw_op_ ?_) | with_reducible (first | refine sw_nil ?_ | refine sq_then ?_ | refine sc_seq ?_ | refine sc_region ?_ | refine sw_guard_skip ?_ | refine sw_guard_skip_ ?_ | refine sw_guard_run ?_ | refine sc_cond_true ?_ | refine sc_cond_false ?_ | refine sc_ret ?_ | refine sq_then_ret ?_ | refine sc_skip ?_ | refine sc_block ?_ | refine sq_block ?_ | refine sq_block_ret ?_ | refine sc_exit ?_ | refine sq_then_exit ?_ | refine sq_block_exit ?_ | refine sq_block_past ?_ | refine sq_round_ret ?_ | refine sq_round_exit ?_) | fail)
      refine sq_end0 Try.results116 ?_
      refine ⟨_, ⟨rfl, .inl ⟨D.map (·.1), ⟨hn, fun i => ?_⟩, rfl⟩⟩, ?_⟩
      · constructor
        · intro hi
          obtain ⟨⟨a, v⟩, ha, rfl⟩ := List.mem_map.1 hi
          rw [hD a v ha]; rfl
        · intro hi
          obtain ⟨v, hv⟩ := Option.isSome_iff_exists.1 hi
          exact List.mem_map.2 ⟨(i, v), hall i v hv, rfl⟩
      · show Ent _ ((l, J (D.map (·.1))) :: (bx, pts bx (mbx m)) :: (m, MapI .i64 m f) :: F)
        refine Ent.trans ItI.map ?_
        repeat' (first | with_reducible exact Ent.refl _ | with_reducible refine Ent.take_eq ?_ ?_ | rfl | with_reducible refine Ent.trans (Ent.drop _ _) ?_)
    · intro i v hi hno hlt
      have hnx : (f i).isSome = true ∧ i ∉ D.map (·.1) := ⟨by rw [hi]; rfl, fun hm => by
        obtain ⟨⟨a, u⟩, ha, rfl⟩ := List.mem_map.1 hm
        exact hno u ha⟩
      repeat' (first | with_reducible (first | refine sw_op ?_ | refine sw_op_ ?_) | ((with_reducible refine sw_yield rfl (hY _ i hnx) ?_); rintro _ _ (⟨rfl, rfl⟩ | ⟨rfl, rfl⟩)) | with_reducible (first | refine sw_nil ?_ | refine sq_then ?_ | refine sc_seq ?_ | refine sc_region ?_ | refine sw_guard_skip ?_ | refine sw_guard_skip_ ?_ | refine sw_guard_run ?_ | refine sc_cond_true ?_ | refine sc_cond_false ?_ | refine sc_ret ?_ | refine sq_then_ret ?_ | refine sc_skip ?_ | refine sc_block ?_ | refine sq_block ?_ | refine sq_block_ret ?_ | refine sc_exit ?_ | refine sq_then_exit ?_ | refine sq_block_exit ?_ | refine sq_block_past ?_ | refine sq_round_ret ?_ | refine sq_round_exit ?_) | (with_reducible refine sc_cond (fun h => ?_) (fun h => ?_)) <;> (try (exfalso; first | contradiction | omega | exact h Iff.rfl)) | fail)
      · refine sq_round ⟨D ++ [(i, v)], ?_, ?_⟩ ?_ ?_ ?_
        · rw [List.map_append]
          exact List.nodup_append.2 ⟨hn, by simp, fun a ha b hb => by simp at hb; subst hb; rintro rfl; exact hnx.2 ha⟩
        · intro j u hj
          rcases List.mem_append.1 hj with h | h
          · exact hD j u h
          · simp at h; obtain ⟨rfl, rfl⟩ := h; exact hi
        · show N - (D ++ [(i, v)]).length < N - D.length
          rw [List.length_append, List.length_singleton]; omega
        · exact says_cons rfl (says_cons rfl says_nil)
        · have e1 : (D ++ [(i, v)]).map (·.1) = D.map (·.1) ++ [i] := by simp
          show Ent _ ((r, ItI .i64 m r f N (D ++ [(i, v)])) :: (bx, pts bx (mbx m)) :: (l, J ((D ++ [(i, v)]).map (·.1))) :: F)
          rw [e1]
          repeat' (first | with_reducible exact Ent.refl _ | with_reducible refine Ent.take_eq ?_ ?_ | rfl | with_reducible refine Ent.trans (Ent.drop _ _) ?_)
      · refine sq_ret0 Try.results116 ?_
        refine ⟨_, ⟨rfl, .inr ⟨D.map (·.1), i, hnx, rfl⟩⟩, ?_⟩
        show Ent _ ((l, Jx (D.map (·.1) ++ [i])) :: (bx, pts bx (mbx m)) :: (m, MapI .i64 m f) :: F)
        refine Ent.cons _ (Ent.trans ItI.map ?_)
        repeat' (first | with_reducible exact Ent.refl _ | with_reducible refine Ent.take_eq ?_ ?_ | rfl | with_reducible refine Ent.trans (Ent.drop _ _) ?_)

theorem keysB_ok (m : Nat) : Spec Try.prog 112 [.map (some m)] [] [] fun F v Rs' => ∃ bx, v = .func (.func 116) #[] #[.pointer (some ⟨bx, 0, none⟩)] ∧ Rs' = (bx, pts bx (mbx m)) :: F := by
  refine spec_of Try.func112 rfl Try.ntmps112 rfl ?_
  intro w0 F
  repeat' (first | with_reducible (first | refine sw_op ?_ | refine sw_op_ ?_) | with_reducible (first | refine sw_nil ?_ | refine sq_then ?_ | refine sc_seq ?_ | refine sc_region ?_ | refine sw_guard_skip ?_ | refine sw_guard_skip_ ?_ | refine sw_guard_run ?_ | refine sc_cond_true ?_ | refine sc_cond_false ?_ | refine sc_ret ?_ | refine sq_then_ret ?_ | refine sc_skip ?_ | refine sc_block ?_ | refine sq_block ?_ | refine sq_block_ret ?_ | refine sc_exit ?_ | refine sq_then_exit ?_ | refine sq_block_exit ?_ | refine sq_block_past ?_ | refine sq_round_ret ?_ | refine sq_round_exit ?_) | fail)
  refine sw_box fun bx => ?_
  repeat' (first | with_reducible (first | refine sw_op ?_ | refine sw_op_ ?_) | with_reducible (first | refine sw_nil ?_ | refine sq_then ?_ | refine sc_seq ?_ | refine sc_region ?_ | refine sw_guard_skip ?_ | refine sw_guard_skip_ ?_ | refine sw_guard_run ?_ | refine sc_cond_true ?_ | refine sc_cond_false ?_ | refine sc_ret ?_ | refine sq_then_ret ?_ | refine sc_skip ?_ | refine sc_block ?_ | refine sq_block ?_ | refine sq_block_ret ?_ | refine sc_exit ?_ | refine sq_then_exit ?_ | refine sq_block_exit ?_ | refine sq_block_past ?_ | refine sq_round_ret ?_ | refine sq_round_exit ?_) | fail)
  refine sq_ret1 Try.results112 ?_
  exact ⟨_, ⟨bx, rfl, rfl⟩, Ent.refl _⟩

/-- a row of ints that grows: what a box's slice holds -/
def IntsB (bx : Nat) (xs : List Int) : HProp := hor (hand (xs = []) (hall [(bx, pts bx (.cells [.slice none 0 0].toArray 154 (0, 0)))]))
  (hex fun y : Nat × List Value => hall [(bx, pts bx (.cells [.slice (some ⟨y.1, 0, none⟩) xs.length (xs.length + y.2.length)].toArray 154 (0, 0))), (y.1, pts y.1 (.cells (xs.map (Value.int .i64) ++ y.2).toArray 3 (0, 0)))])

theorem ints_bound {xs : List Int} (hn : xs.Nodup) (h : ∀ i ∈ xs, 0 ≤ i ∧ i < 16384) : xs.length ≤ 16384 := by
  have := nodup_le xs ((List.range 16384).map Int.ofNat) hn fun i hi => by
    obtain ⟨h1, h2⟩ := h i hi
    exact List.mem_map.2 ⟨i.toNat, List.mem_range.2 (by omega), Int.toNat_of_nonneg h1⟩
  rwa [List.length_map, List.length_range] at this

/-- what is dirty, in order -/
structure Keys (f : Int → Option Value) (ks : List Int) : Prop where
  nodup : ks.Nodup
  mem : ∀ i, i ∈ ks ↔ (f i).isSome = true
  le : ks.Pairwise (· ≤ ·)

theorem dWritten_ok (p bS n c m : Nat) (down : Bool) (calls fuse : Int) (kv : Value) (f : Int → Option Value) (hf : ∀ i, (f i).isSome = true → 0 ≤ i ∧ i < 16384) :
    Spec Try.prog 104 [.pointer (some ⟨p, 0, none⟩)] [p, m] [pts p (drow bS n c m down calls fuse kv), MapI .i64 m f] fun F v Rs' => ∃ ks, Keys f ks ∧
      ((ks = [] ∧ v = .slice none 0 0 ∧ Rs' = (p, pts p (drow bS n c m down calls fuse kv)) :: (m, MapI .i64 m f) :: F) ∨
       (∃ b r, v = .slice (some ⟨b, 0, none⟩) ks.length (ks.length + r.length) ∧ Rs' = (b, pts b (.cells (ks.map (Value.int .i64) ++ r).toArray 3 (0, 0))) :: (p, pts p (drow bS n c m down calls fuse kv)) :: (m, MapI .i64 m f) :: F)) := by
  refine spec_of Try.func104 rfl Try.ntmps104 rfl ?_
  intro w0 F
  repeat' (first | with_reducible (first | refine sw_op ?_ | refine sw_op_ ?_) | with_reducible (first | refine sw_nil ?_ | refine sq_then ?_ | refine sc_seq ?_ | refine sc_region ?_ | refine sw_guard_skip ?_ | refine sw_guard_skip_ ?_ | refine sw_guard_run ?_ | refine sc_cond_true ?_ | refine sc_cond_false ?_ | refine sc_ret ?_ | refine sq_then_ret ?_ | refine sc_skip ?_ | refine sc_block ?_ | refine sq_block ?_ | refine sq_block_ret ?_ | refine sc_exit ?_ | refine sq_then_exit ?_ | refine sq_block_exit ?_ | refine sq_block_past ?_ | refine sq_round_ret ?_ | refine sq_round_exit ?_) | fail)
  refine sw_alloc fun bl => ?_
  repeat' (first | with_reducible (first | refine sw_op ?_ | refine sw_op_ ?_) | ((with_reducible refine sw_call (keysB_ok m) ?_); rintro _ _ ⟨bx, rfl, rfl⟩) | with_reducible (first | refine sw_nil ?_ | refine sq_then ?_ | refine sc_seq ?_ | refine sc_region ?_ | refine sw_guard_skip ?_ | refine sw_guard_skip_ ?_ | refine sw_guard_run ?_ | refine sc_cond_true ?_ | refine sc_cond_false ?_ | refine sc_ret ?_ | refine sq_then_ret ?_ | refine sc_skip ?_ | refine sc_block ?_ | refine sq_block ?_ | refine sq_block_ret ?_ | refine sc_exit ?_ | refine sq_then_exit ?_ | refine sq_block_exit ?_ | refine sq_block_past ?_ | refine sq_round_ret ?_ | refine sq_round_exit ?_) | fail)
  refine sc_rangeFunc (keysBi_iter bx m f) rfl (fun pre => (bl, hand (pre.Nodup ∧ ∀ i ∈ pre, (f i).isSome = true) (IntsB bl pre)) :: (p, pts p (drow bS n c m down calls fuse kv)) :: F) (fun _ _ => falseR) ?_ ?_ ?_ ?_
  · refine Ent.and1 ⟨by simp, by simp⟩ (Ent.or1 (Ent.and1 rfl (Ent.hall1 ?_)))
    simp only [List.cons_append, List.nil_append]
    repeat' (first | with_reducible exact Ent.refl _ | with_reducible refine Ent.take_eq ?_ ?_ | rfl | with_reducible refine Ent.trans (Ent.drop _ _) ?_)
  · intro w1 lp rc F' pre i hN
    simp only [List.cons_append]
    repeat' (first | with_reducible (first | refine sw_op ?_ | refine sw_op_ ?_) | with_reducible refine sq_rAssign ?_ | with_reducible (first | refine sw_nil ?_ | refine sq_then ?_ | refine sc_seq ?_ | refine sc_region ?_ | refine sw_guard_skip ?_ | refine sw_guard_skip_ ?_ | refine sw_guard_run ?_ | refine sc_cond_true ?_ | refine sc_cond_false ?_ | refine sc_ret ?_ | refine sq_then_ret ?_ | refine sc_skip ?_ | refine sc_block ?_ | refine sq_block ?_ | refine sq_block_ret ?_ | refine sc_exit ?_ | refine sq_then_exit ?_ | refine sq_block_exit ?_ | refine sq_block_past ?_ | refine sq_round_ret ?_ | refine sq_round_exit ?_) | fail)
    refine sw_and bl fun hp => ?_
    have hbd := ints_bound hp.1 fun j hj => hf j (hp.2 j hj)
    have hp' : (pre ++ [i]).Nodup ∧ ∀ j ∈ pre ++ [i], (f j).isSome = true := ⟨List.nodup_append.2 ⟨hp.1, by simp, fun a ha b hb => by simp at hb; subst hb; rintro rfl; exact hN.2 ha⟩, fun j hj => by
      rcases List.mem_append.1 hj with h | h
      · exact hp.2 j h
      · simp at h; subst h; exact hN.1⟩
    unfold IntsB
    refine sw_or bl (sw_and bl fun hp0 => sw_hall bl ?_) (sw_ex bl fun y => sw_hall bl ?_)
    · subst hp0
      simp only [List.cons_append, List.nil_append]
      repeat' (first | with_reducible (first | refine sw_op ?_ | refine sw_op_ ?_) | with_reducible (first | refine sw_nil ?_ | refine sq_then ?_ | refine sc_seq ?_ | refine sc_region ?_ | refine sw_guard_skip ?_ | refine sw_guard_skip_ ?_ | refine sw_guard_run ?_ | refine sc_cond_true ?_ | refine sc_cond_false ?_ | refine sc_ret ?_ | refine sq_then_ret ?_ | refine sc_skip ?_ | refine sc_block ?_ | refine sq_block ?_ | refine sq_block_ret ?_ | refine sc_exit ?_ | refine sq_then_exit ?_ | refine sq_block_exit ?_ | refine sq_block_past ?_ | refine sq_round_ret ?_ | refine sq_round_exit ?_) | fail)
      refine sw_buildSlice [.int .i64 i] (by omega) rfl fun b0 => ?_
      repeat' (first | with_reducible (first | refine sw_op ?_ | refine sw_op_ ?_) | with_reducible (first | refine sw_nil ?_ | refine sq_then ?_ | refine sc_seq ?_ | refine sc_region ?_ | refine sw_guard_skip ?_ | refine sw_guard_skip_ ?_ | refine sw_guard_run ?_ | refine sc_cond_true ?_ | refine sc_cond_false ?_ | refine sc_ret ?_ | refine sq_then_ret ?_ | refine sc_skip ?_ | refine sc_block ?_ | refine sq_block ?_ | refine sq_block_ret ?_ | refine sc_exit ?_ | refine sq_then_exit ?_ | refine sq_block_exit ?_ | refine sq_block_past ?_ | refine sq_round_ret ?_ | refine sq_round_exit ?_) | fail)
      refine sw_append_nil (src := [.int .i64 i]) src_pts0 ⟨by simp, rfl, by simp, by simp⟩ fun b1 r => ?_
      repeat' (first | with_reducible (first | refine sw_op ?_ | refine sw_op_ ?_) | with_reducible refine sw_store ?_ | with_reducible (first | refine sw_nil ?_ | refine sq_then ?_ | refine sc_seq ?_ | refine sc_region ?_ | refine sw_guard_skip ?_ | refine sw_guard_skip_ ?_ | refine sw_guard_run ?_ | refine sc_cond_true ?_ | refine sc_cond_false ?_ | refine sc_ret ?_ | refine sq_then_ret ?_ | refine sc_skip ?_ | refine sc_block ?_ | refine sq_block ?_ | refine sq_block_ret ?_ | refine sc_exit ?_ | refine sq_then_exit ?_ | refine sq_block_exit ?_ | refine sq_block_past ?_ | refine sq_round_ret ?_ | refine sq_round_exit ?_) | fail)
      refine sq_rEnd ?_
      simp only [List.cons_append]
      refine Ent.and1 hp' (Ent.or2 (Ent.ex1 (b1, r) (Ent.hall1 ?_)))
      simp only [List.cons_append, List.nil_append]
      repeat' (first | with_reducible exact Ent.refl _ | with_reducible refine Ent.take_eq ?_ ?_ | rfl | with_reducible refine Ent.trans (Ent.drop _ _) ?_)
    · obtain ⟨b1, r⟩ := y
      simp only [List.cons_append, List.nil_append]
      repeat' (first | with_reducible (first | refine sw_op ?_ | refine sw_op_ ?_) | with_reducible (first | refine sw_nil ?_ | refine sq_then ?_ | refine sc_seq ?_ | refine sc_region ?_ | refine sw_guard_skip ?_ | refine sw_guard_skip_ ?_ | refine sw_guard_run ?_ | refine sc_cond_true ?_ | refine sc_cond_false ?_ | refine sc_ret ?_ | refine sq_then_ret ?_ | refine sc_skip ?_ | refine sc_block ?_ | refine sq_block ?_ | refine sq_block_ret ?_ | refine sc_exit ?_ | refine sq_then_exit ?_ | refine sq_block_exit ?_ | refine sq_block_past ?_ | refine sq_round_ret ?_ | refine sq_round_exit ?_) | fail)
      refine sw_buildSlice [.int .i64 i] (by omega) rfl fun b0 => ?_
      repeat' (first | with_reducible (first | refine sw_op ?_ | refine sw_op_ ?_) | with_reducible (first | refine sw_nil ?_ | refine sq_then ?_ | refine sc_seq ?_ | refine sc_region ?_ | refine sw_guard_skip ?_ | refine sw_guard_skip_ ?_ | refine sw_guard_run ?_ | refine sc_cond_true ?_ | refine sc_cond_false ?_ | refine sc_ret ?_ | refine sq_then_ret ?_ | refine sc_skip ?_ | refine sc_block ?_ | refine sq_block ?_ | refine sq_block_ret ?_ | refine sc_exit ?_ | refine sq_then_exit ?_ | refine sq_block_exit ?_ | refine sq_block_past ?_ | refine sq_round_ret ?_ | refine sq_round_exit ?_) | fail)
      refine sw_append (src := [.int .i64 i]) src_pts0 (by simp [Value.oneCell']) ⟨by omega, by rw [List.length_append, List.length_map], rfl, ?_, ?_⟩ fun b2 r2 => ?_
      · simp only [List.length_cons, List.length_nil]; omega
      · simp only [List.length_cons, List.length_nil]; omega
      have e1 : List.take pre.length (pre.map (Value.int .i64) ++ r) ++ [Value.int .i64 i] ++ r2 = (pre ++ [i]).map (Value.int .i64) ++ r2 := by
        rw [List.take_left' (by rw [List.length_map]), List.map_append]; rfl
      have e2 : pre.length + [Value.int .i64 i].length = (pre ++ [i]).length := by rw [List.length_append]; rfl
      rw [e1, e2]
      repeat' (first | with_reducible (first | refine sw_op ?_ | refine sw_op_ ?_) | with_reducible refine sw_store ?_ | with_reducible (first | refine sw_nil ?_ | refine sq_then ?_ | refine sc_seq ?_ | refine sc_region ?_ | refine sw_guard_skip ?_ | refine sw_guard_skip_ ?_ | refine sw_guard_run ?_ | refine sc_cond_true ?_ | refine sc_cond_false ?_ | refine sc_ret ?_ | refine sq_then_ret ?_ | refine sc_skip ?_ | refine sc_block ?_ | refine sq_block ?_ | refine sq_block_ret ?_ | refine sc_exit ?_ | refine sq_then_exit ?_ | refine sq_block_exit ?_ | refine sq_block_past ?_ | refine sq_round_ret ?_ | refine sq_round_exit ?_) | fail)
      refine sq_rEnd ?_
      simp only [List.cons_append]
      refine Ent.and1 hp' (Ent.or2 (Ent.ex1 (b2, r2) (Ent.hall1 ?_)))
      simp only [List.cons_append, List.nil_append]
      repeat' (first | with_reducible exact Ent.refl _ | with_reducible refine Ent.take_eq ?_ ?_ | rfl | with_reducible refine Ent.trans (Ent.drop _ _) ?_)
  · intro r xs hD
    show SQ _ _ _ _ _ ((r, defers0 r) :: (bx, pts bx (mbx m)) :: (m, MapI .i64 m f) :: (bl, hand (xs.Nodup ∧ ∀ i ∈ xs, (f i).isSome = true) (IntsB bl xs)) :: (p, pts p (drow bS n c m down calls fuse kv)) :: F)
    refine sq_and bl fun hp => ?_
    have hbd := ints_bound hp.1 fun j hj => hf j (hp.2 j hj)
    repeat' (first | with_reducible (first | refine sw_op ?_ | refine sw_op_ ?_) | with_reducible refine sq_then_m ?_ | with_reducible refine sq_block_m ?_ | with_reducible (first | refine sw_nil ?_ | refine sq_then ?_ | refine sc_seq ?_ | refine sc_region ?_ | refine sw_guard_skip ?_ | refine sw_guard_skip_ ?_ | refine sw_guard_run ?_ | refine sc_cond_true ?_ | refine sc_cond_false ?_ | refine sc_ret ?_ | refine sq_then_ret ?_ | refine sc_skip ?_ | refine sc_block ?_ | refine sq_block ?_ | refine sq_block_ret ?_ | refine sc_exit ?_ | refine sq_then_exit ?_ | refine sq_block_exit ?_ | refine sq_block_past ?_ | refine sq_round_ret ?_ | refine sq_round_exit ?_) | fail)
    unfold IntsB
    refine sw_or bl (sw_and bl fun hp0 => sw_hall bl ?_) (sw_ex bl fun y => sw_hall bl ?_)
    · subst hp0
      simp only [List.cons_append, List.nil_append]
      repeat' (first | with_reducible (first | refine sw_op ?_ | refine sw_op_ ?_) | ((with_reducible refine sw_call (sortI_nil none 0) ?_); rintro _ _ ⟨rfl, rfl⟩) | with_reducible refine sq_then_m ?_ | with_reducible (first | refine sw_nil ?_ | refine sq_then ?_ | refine sc_seq ?_ | refine sc_region ?_ | refine sw_guard_skip ?_ | refine sw_guard_skip_ ?_ | refine sw_guard_run ?_ | refine sc_cond_true ?_ | refine sc_cond_false ?_ | refine sc_ret ?_ | refine sq_then_ret ?_ | refine sc_skip ?_ | refine sc_block ?_ | refine sq_block ?_ | refine sq_block_ret ?_ | refine sc_exit ?_ | refine sq_then_exit ?_ | refine sq_block_exit ?_ | refine sq_block_past ?_ | refine sq_round_ret ?_ | refine sq_round_exit ?_) | fail)
      refine sq_ret_m rfl ?_
      refine sq_ret1 Try.results104 ?_
      refine ⟨_, ⟨[], ⟨by simp, hD.2, by simp⟩, .inl ⟨rfl, rfl, rfl⟩⟩, ?_⟩
      repeat' (first | with_reducible exact Ent.refl _ | with_reducible refine Ent.take_eq ?_ ?_ | rfl | with_reducible refine Ent.trans (Ent.drop _ _) ?_)
    · obtain ⟨b1, r1⟩ := y
      simp only [List.cons_append, List.nil_append]
      repeat' (first | with_reducible (first | refine sw_op ?_ | refine sw_op_ ?_) | ((with_reducible refine sw_call (sortI_ok b1 _ xs r1 _ (by omega)) ?_); rintro _ _ ⟨rfl, rfl⟩) | with_reducible refine sq_then_m ?_ | with_reducible (first | refine sw_nil ?_ | refine sq_then ?_ | refine sc_seq ?_ | refine sc_region ?_ | refine sw_guard_skip ?_ | refine sw_guard_skip_ ?_ | refine sw_guard_run ?_ | refine sc_cond_true ?_ | refine sc_cond_false ?_ | refine sc_ret ?_ | refine sq_then_ret ?_ | refine sc_skip ?_ | refine sc_block ?_ | refine sq_block ?_ | refine sq_block_ret ?_ | refine sc_exit ?_ | refine sq_then_exit ?_ | refine sq_block_exit ?_ | refine sq_block_past ?_ | refine sq_round_ret ?_ | refine sq_round_exit ?_) | fail)
      refine sq_ret_m rfl ?_
      refine sq_ret1 Try.results104 ?_
      have hpm := List.mergeSort_perm xs leI
      refine ⟨_, ⟨xs.mergeSort leI, ⟨hpm.nodup_iff.2 hp.1, fun i => by rw [hpm.mem_iff]; exact hD.2 i, ?_⟩, .inr ⟨b1, r1, by rw [List.length_mergeSort], rfl⟩⟩, ?_⟩
      · have := List.pairwise_mergeSort (le := leI) (fun a b c h1 h2 => by simp only [leI, decide_eq_true_eq] at *; omega) (fun a b => by simp only [leI, Bool.or_eq_true, decide_eq_true_eq]; omega) xs
        exact this.imp fun h => by simpa [leI] using h
      · repeat' (first | with_reducible exact Ent.refl _ | with_reducible refine Ent.take_eq ?_ ?_ | rfl | with_reducible refine Ent.trans (Ent.drop _ _) ?_)
  · intro r c pre i hN
    exact sc_false (A := (r, defers0 r) :: ([bx, m].zip [pts bx (mbx m), MapI .i64 m f]))
end Go.Gsl
