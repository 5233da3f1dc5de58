/- DiskSure. -/
import Derived.Test.YtccmenekmmlboaaDiskO
namespace Go.Gsl
set_option linter.unusedVariables false
open Go.Proofs Go.RowKit

/-- what is wanted still holds -/
def WantS (g : Int → Option (List Int)) (s : Dk) : Prop := ∀ i xs, g i = some xs → (0 ≤ i ∧ s.sure[i.toNat]? = some xs) ∧ s.dirty i = none
theorem WantS.start {s : Dk} (hw : s.Wf) : WantS s.dirty s.barred := fun i xs h => by
  have hd := hw.dat i xs h
  refine ⟨⟨hd.1, ?_⟩, rfl⟩
  show (mergeS s.dirty s.sure)[i.toNat]? = _
  unfold mergeS
  rw [List.getElem?_mapIdx, List.getElem?_eq_getElem (show i.toNat < s.sure.length by omega), Option.map_some, Int.toNat_of_nonneg hd.1, h]
  rfl
theorem WantS.write {g : Int → Option (List Int)} {s : Dk} {a : Int} {xs : List Int} (h : WantS g s) : WantS (fun j => if j = a then none else g j) (s.wrote a xs) := fun i ys hi => by
  simp only at hi
  split at hi
  · cases hi
  · rename_i hne
    obtain ⟨h1, h2⟩ := h i ys hi
    refine ⟨h1, ?_⟩
    show (if i = a then some xs else s.dirty i) = none
    rw [if_neg hne]; exact h2
theorem ScD.del {f : Int → Option Value} {g : Int → Option (List Int)} {a : Int} {h : Hp} (hs : ScD f g h) : ScD (mdel f a) (fun j => if j = a then none else g j) h := fun j => by
  obtain ⟨e1, e2⟩ := hs j
  simp only [mdel]
  by_cases hj : j = a
  · simp only [hj, if_true]
    exact ⟨rfl, fun v xs hv => by cases hv⟩
  · simp only [hj, if_false]
    exact ⟨e1, e2⟩

set_option maxHeartbeats 1000000 in
set_option maxRecDepth 20000 in
theorem diskSure_ok (W : World) (n : Int) (a1 a2 : Option Addr) (os1 os2 : List Op7) (c1 c2 : Nat) (kv : Value) (bs : List Bool) (h1 : Ops7 W a1 os1) (h2 : Ops7 W a2 os2) (l1 : os1.length ≤ maxLen) (l2 : os2.length ≤ maxLen) (hk : RdW W kv (bs.map Value.bool)) :
    Spec Try.prog 7 [.int .i64 n, .slice a1 os1.length c1, .slice a2 os2.length c2, kv] [0] [ro W] fun F v Rs' => v = .bool true ∧ ∃ G, Rs' = (0, ro W) :: G := by
  unfold maxLen at l1 l2
  have hkb := hk.bools
  obtain ⟨ka, kc, rfl, hkm, hkn, hkr⟩ := hk
  rw [List.length_map] at hkm hkn hkb ⊢
  unfold maxLen at hkm
  by_cases hn : n < 1 ∨ 16384 < n
  · refine spec_of Try.func7 rfl Try.ntmps7 rfl ?_
    intro w0 F
    repeat' (first | with_reducible refine sw_op ?_ | with_reducible refine sw_op_ ?_ | ((with_reducible refine sw_call (dNew_bad n hn) ?_); rintro _ _ ⟨rfl, rfl⟩) | ((with_reducible refine sw_call l2begun_ok ?_); rintro _ _ ⟨rfl, rfl⟩) | with_reducible refine sw_nil ?_ | with_reducible refine sq_then ?_ | with_reducible refine sc_seq ?_ | with_reducible refine sc_region ?_ | with_reducible refine sw_guard_skip ?_ | with_reducible refine sw_guard_skip_ ?_ | with_reducible refine sw_guard_run ?_ | with_reducible refine sc_cond_true ?_ | with_reducible refine sc_cond_false ?_ | with_reducible refine sc_ret ?_ | with_reducible refine sq_then_ret ?_ | with_reducible refine sc_skip ?_ | with_reducible refine sc_block ?_ | with_reducible refine sq_block ?_ | with_reducible refine sq_block_ret ?_ | with_reducible refine sc_exit ?_ | with_reducible refine sq_then_exit ?_ | with_reducible refine sq_block_exit ?_ | with_reducible refine sq_block_past ?_ | with_reducible refine sq_round_ret ?_ | with_reducible refine sq_round_exit ?_ | (with_reducible refine sc_cond (fun h => ?_) (fun h => ?_)) <;> (try (exfalso; first | contradiction | omega | exact h Iff.rfl)) | (with_reducible refine sw_guard_split (fun h => ?_) (fun h => ?_)) <;> (try (exfalso; first | contradiction | omega | exact h Iff.rfl)) | (with_reducible refine sw_pick (fun h => ?_) (fun h => ?_)) <;> (try (exfalso; first | contradiction | omega | exact h Iff.rfl)) | fail)
    all_goals
      refine sq_ret1 Try.results7 ?_
      refine ⟨_, ⟨?_, F, rfl⟩, Ent.refl _⟩
      first | rfl | (congr 1; simp; omega)
  obtain ⟨m, rfl⟩ : ∃ m : Nat, n = m := ⟨n.toNat, by omega⟩
  refine spec_of Try.func7 rfl Try.ntmps7 rfl ?_
  intro w0 F
  repeat' (first | with_reducible refine sw_op ?_ | with_reducible refine sw_op_ ?_ | ((with_reducible refine sw_call (dNew_ok m (by omega) (by omega)) ?_); rintro _ _ ⟨p, rfl, rfl⟩) | ((with_reducible refine sw_call l2begun_ok ?_); rintro _ _ ⟨rfl, rfl⟩) | with_reducible refine sw_makeMap (k := .i64) fun wm => ?_ | with_reducible refine sw_nil ?_ | with_reducible refine sq_then ?_ | with_reducible refine sc_seq ?_ | with_reducible refine sc_region ?_ | with_reducible refine sw_guard_skip ?_ | with_reducible refine sw_guard_skip_ ?_ | with_reducible refine sw_guard_run ?_ | with_reducible refine sc_cond_true ?_ | with_reducible refine sc_cond_false ?_ | with_reducible refine sc_ret ?_ | with_reducible refine sq_then_ret ?_ | with_reducible refine sc_skip ?_ | with_reducible refine sc_block ?_ | with_reducible refine sq_block ?_ | with_reducible refine sq_block_ret ?_ | with_reducible refine sc_exit ?_ | with_reducible refine sq_then_exit ?_ | with_reducible refine sq_block_exit ?_ | with_reducible refine sq_block_past ?_ | with_reducible refine sq_round_ret ?_ | with_reducible refine sq_round_exit ?_ | (with_reducible refine sc_cond (fun h => ?_) (fun h => ?_)) <;> (try (exfalso; first | contradiction | omega | exact h Iff.rfl)) | (with_reducible refine sw_guard_split (fun h => ?_) (fun h => ?_)) <;> (try (exfalso; first | contradiction | omega | exact h Iff.rfl)) | (with_reducible refine sw_pick (fun h => ?_) (fun h => ?_)) <;> (try (exfalso; first | contradiction | omega | exact h Iff.rfl)) | fail)
  refine sc_ent (Ent.dup_take (k := p) (k' := wm + 1) (r' := ScD mnil (Dk.new m).dirty) fun _ _ => by intro j; exact ⟨rfl, fun v xs h => by cases h⟩) ?_
  refine sc_loop (α := { y : Nat × Dk × (Int → Option Value) // (y.1 ≤ os1.length ∧ y.2.1.down = false) ∧ y.2.1.fuse = 0 ∧ y.2.1.sure.length = m }) (fun y => [(0, .int .i64 m), (2, .slice a2 os2.length c2), (3, .slice ka bs.length kc), (9, .pointer (some ⟨p, 0, none⟩)), (11, .map (some wm)), (45, .slice a1 os1.length c1), (46, .int .i64 os1.length), (47, .int .i64 y.1.1)])
    (fun y => (wm + 1, ScD y.1.2.2 y.1.2.1.dirty) :: (wm, MapI .i64 wm y.1.2.2) :: (p, DISK p y.1.2.1) :: (0, ro W) :: F)
    (fun y => os1.length - y.1.1) ⟨(0, Dk.new m, mnil), ⟨Nat.zero_le _, rfl⟩, rfl, by show (List.replicate m _).length = m; rw [List.length_replicate]⟩ ?_ ?_ ?_
  · repeat' (first | exact says_nil | refine says_cons rfl ?_ | refine says_cons (by simp) ?_)
  · repeat' (first | with_reducible exact Ent.refl _ | with_reducible refine Ent.take_eq ?_ ?_ | rfl | with_reducible refine Ent.trans (Ent.drop _ _) ?_)
  rintro ⟨⟨k, s, f⟩, ⟨hk1, hdn⟩, hfu, hsl⟩ e1
  simp only at hk1 hdn hfu hsl
  simp only [List.cons_append, List.nil_append]
  repeat' (first | with_reducible refine sw_op ?_ | with_reducible refine sw_op_ ?_ | with_reducible refine sw_nil ?_ | with_reducible refine sq_then ?_ | with_reducible refine sc_seq ?_ | with_reducible refine sc_region ?_ | with_reducible refine sw_guard_skip ?_ | with_reducible refine sw_guard_skip_ ?_ | with_reducible refine sw_guard_run ?_ | with_reducible refine sc_cond_true ?_ | with_reducible refine sc_cond_false ?_ | with_reducible refine sc_ret ?_ | with_reducible refine sq_then_ret ?_ | with_reducible refine sc_skip ?_ | with_reducible refine sc_block ?_ | with_reducible refine sq_block ?_ | with_reducible refine sq_block_ret ?_ | with_reducible refine sc_exit ?_ | with_reducible refine sq_then_exit ?_ | with_reducible refine sq_block_exit ?_ | with_reducible refine sq_block_past ?_ | with_reducible refine sq_round_ret ?_ | with_reducible refine sq_round_exit ?_ | (with_reducible refine sc_cond (fun h => ?_) (fun h => ?_)) <;> (try (exfalso; first | contradiction | omega | exact h Iff.rfl)) | fail)
  · have hk2 : k < os1.length := by omega
    obtain ⟨hwf, b, off, rfl, hcell⟩ := h1 k hk2
    haveI := hwf.keep.one
    haveI := hwf.odd.one
    have hf1 : s.fuse ≠ 1 := by omega
    refine sw_index (by omega) ?_
    refine sw_load_agg (sz := 7) (vs := op7v os1[k]) rfl (fun w hw j v hj => ro_cell (W := W) (by simpa using hcell j v hj) w hw) ?_
    refine sw_alloc fun ob => ?_
    refine sw_store_agg ?_
    repeat' (first | with_reducible refine sw_op ?_ | with_reducible refine sw_op_ ?_ | ((with_reducible refine sw_call (l2sector_ok _ _ hwf.a hwf.b) ?_); rintro _ _ ⟨q, r, rfl, rfl⟩) | with_reducible refine sw_nil ?_ | with_reducible refine sq_then ?_ | with_reducible refine sc_seq ?_ | with_reducible refine sc_region ?_ | with_reducible refine sw_guard_skip ?_ | with_reducible refine sw_guard_skip_ ?_ | with_reducible refine sw_guard_run ?_ | with_reducible refine sc_cond_true ?_ | with_reducible refine sc_cond_false ?_ | with_reducible refine sc_ret ?_ | with_reducible refine sq_then_ret ?_ | with_reducible refine sc_skip ?_ | with_reducible refine sc_block ?_ | with_reducible refine sq_block ?_ | with_reducible refine sq_block_ret ?_ | with_reducible refine sc_exit ?_ | with_reducible refine sq_then_exit ?_ | with_reducible refine sq_block_exit ?_ | with_reducible refine sq_block_past ?_ | with_reducible refine sq_round_ret ?_ | with_reducible refine sq_round_exit ?_ | fail)
    refine sw_call (dWrite_f0 p q s _ _ 512 os1[k].at' (secOf os1[k].a os1[k].b) (secOf_wf hwf.a hwf.b) (by simp) reads_row hf1) ?_
    rintro _ _ (⟨hbad, rfl, rfl⟩ | ⟨hok, rfl, rfl⟩)
    · repeat' (first | with_reducible refine sw_in (by omega) ?_ | with_reducible refine sw_op ?_ | with_reducible refine sw_op_ ?_ | with_reducible refine sw_nil ?_ | with_reducible refine sq_then ?_ | with_reducible refine sc_seq ?_ | with_reducible refine sc_region ?_ | with_reducible refine sw_guard_skip ?_ | with_reducible refine sw_guard_skip_ ?_ | with_reducible refine sw_guard_run ?_ | with_reducible refine sc_cond_true ?_ | with_reducible refine sc_cond_false ?_ | with_reducible refine sc_ret ?_ | with_reducible refine sq_then_ret ?_ | with_reducible refine sc_skip ?_ | with_reducible refine sc_block ?_ | with_reducible refine sq_block ?_ | with_reducible refine sq_block_ret ?_ | with_reducible refine sc_exit ?_ | with_reducible refine sq_then_exit ?_ | with_reducible refine sq_block_exit ?_ | with_reducible refine sq_block_past ?_ | with_reducible refine sq_round_ret ?_ | with_reducible refine sq_round_exit ?_ | (with_reducible refine sc_cond (fun h => ?_) (fun h => ?_)) <;> (try (exfalso; first | contradiction | omega | exact h Iff.rfl)) | fail)
      refine sq_round ⟨(k + 1, s, f), ⟨hk2, hdn⟩, hfu, hsl⟩ ?_ ?_ ?_
      · show os1.length - (k + 1) < os1.length - k
        omega
      · repeat' (first | exact says_nil | refine says_cons rfl ?_ | refine says_cons (by simp) ?_)
      · repeat' (first | with_reducible exact Ent.refl _ | with_reducible refine Ent.take_eq ?_ ?_ | rfl | with_reducible refine Ent.trans (Ent.drop _ _) ?_)
    · repeat' (first | with_reducible refine sw_in (by omega) ?_ | with_reducible refine sw_op ?_ | with_reducible refine sw_op_ ?_ | with_reducible refine sw_mapUpdate ?_ | with_reducible refine sw_nil ?_ | with_reducible refine sq_then ?_ | with_reducible refine sc_seq ?_ | with_reducible refine sc_region ?_ | with_reducible refine sw_guard_skip ?_ | with_reducible refine sw_guard_skip_ ?_ | with_reducible refine sw_guard_run ?_ | with_reducible refine sc_cond_true ?_ | with_reducible refine sc_cond_false ?_ | with_reducible refine sc_ret ?_ | with_reducible refine sq_then_ret ?_ | with_reducible refine sc_skip ?_ | with_reducible refine sc_block ?_ | with_reducible refine sq_block ?_ | with_reducible refine sq_block_ret ?_ | with_reducible refine sc_exit ?_ | with_reducible refine sq_then_exit ?_ | with_reducible refine sq_block_exit ?_ | with_reducible refine sq_block_past ?_ | with_reducible refine sq_round_ret ?_ | with_reducible refine sq_round_exit ?_ | (with_reducible refine sc_cond (fun h => ?_) (fun h => ?_)) <;> (try (exfalso; first | contradiction | omega | exact h Iff.rfl)) | fail)
      refine sq_freeze (b := q) ?_
      refine sq_round ⟨(k + 1, s.wrote os1[k].at' (secOf os1[k].a os1[k].b), mput f os1[k].at' (.slice (some ⟨q, 0, none⟩) 512 512)), ⟨hk2, hdn⟩, ?_, hsl⟩ ?_ ?_ ?_
      · show (if s.fuse = 0 then (0 : Int) else s.fuse - 1) = 0
        rw [if_pos hfu]
      · show os1.length - (k + 1) < os1.length - k
        omega
      · repeat' (first | exact says_nil | refine says_cons rfl ?_ | refine says_cons (by simp) ?_)
      · show Ent _ ((wm + 1, ScD (mput f os1[k].at' (.slice (some ⟨q, 0, none⟩) 512 512)) (fun j => if j = os1[k].at' then some (secOf os1[k].a os1[k].b) else s.dirty j)) :: (wm, MapI .i64 wm (mput f os1[k].at' (.slice (some ⟨q, 0, none⟩) 512 512))) :: (p, DISK p (s.wrote os1[k].at' (secOf os1[k].a os1[k].b))) :: (0, ro W) :: F)
        refine Ent.trans ?_ (ScD.add (b := q) (r := r) (secOf_len _ _))
        repeat' (first | with_reducible exact Ent.refl _ | with_reducible refine Ent.take_eq ?_ ?_ | rfl | with_reducible refine Ent.trans (Ent.drop _ _) ?_)
  have hb0 : s.looks 0 = 0 := Dk.looks_ok hdn (by omega) (by omega)
  refine DISK.scwf' (p := p) (s := s) fun hws => ?_
  refine sw_call (dBarrier_ok p s hb0) ?_
  rintro _ _ (⟨hf, rfl, rfl⟩ | ⟨hf, _⟩)
  rotate_left
  · omega
  repeat' (first | with_reducible refine sw_op ?_ | with_reducible refine sw_op_ ?_ | with_reducible refine sw_nil ?_ | with_reducible refine sq_then ?_ | with_reducible refine sc_seq ?_ | with_reducible refine sc_region ?_ | with_reducible refine sw_guard_skip ?_ | with_reducible refine sw_guard_skip_ ?_ | with_reducible refine sw_guard_run ?_ | with_reducible refine sc_cond_true ?_ | with_reducible refine sc_cond_false ?_ | with_reducible refine sc_ret ?_ | with_reducible refine sq_then_ret ?_ | with_reducible refine sc_skip ?_ | with_reducible refine sc_block ?_ | with_reducible refine sq_block ?_ | with_reducible refine sq_block_ret ?_ | with_reducible refine sc_exit ?_ | with_reducible refine sq_then_exit ?_ | with_reducible refine sq_block_exit ?_ | with_reducible refine sq_block_past ?_ | with_reducible refine sq_round_ret ?_ | with_reducible refine sq_round_exit ?_ | (with_reducible refine sc_cond (fun h => ?_) (fun h => ?_)) <;> (try (exfalso; first | contradiction | omega | exact h Iff.rfl)) | fail)
  have hs2 : s.barred.down = false ∧ s.barred.fuse = 0 ∧ s.barred.sure.length = m ∧ WantS s.dirty s.barred := ⟨hdn, by show (if s.fuse = 0 then (0 : Int) else s.fuse - 1) = 0; rw [if_pos hfu], by rw [Dk.barred_len]; exact hsl, WantS.start hws⟩
  generalize s.barred = s2 at hs2
  generalize s.dirty = g0 at hs2
  obtain ⟨hd2, hf2, hsl2, hwa2⟩ := hs2
  refine sc_loop (α := { y : Nat × Dk × (Int → Option Value) × (Int → Option (List Int)) // (y.1 ≤ os2.length ∧ y.2.1.down = false) ∧ y.2.1.fuse = 0 ∧ y.2.1.sure.length = m ∧ WantS y.2.2.2 y.2.1 }) (fun y => [(0, .int .i64 m), (3, .slice ka bs.length kc), (9, .pointer (some ⟨p, 0, none⟩)), (11, .map (some wm)), (70, .slice a2 os2.length c2), (71, .int .i64 os2.length), (72, .int .i64 y.1.1)])
    (fun y => (wm + 1, ScD y.1.2.2.1 y.1.2.2.2) :: (wm, MapI .i64 wm y.1.2.2.1) :: (p, DISK p y.1.2.1) :: (0, ro W) :: F)
    (fun y => os2.length - y.1.1) ⟨(0, s2, f, g0), ⟨Nat.zero_le _, hd2⟩, hf2, hsl2, hwa2⟩ ?_ ?_ ?_
  · repeat' (first | exact says_nil | refine says_cons rfl ?_ | refine says_cons (by simp) ?_)
  · repeat' (first | with_reducible exact Ent.refl _ | with_reducible refine Ent.take_eq ?_ ?_ | rfl | with_reducible refine Ent.trans (Ent.drop _ _) ?_)
  clear hd2 hf2 hsl2 hwa2 hws hb0 hdn hfu hsl hf
  rintro ⟨⟨k, s, f, g⟩, ⟨hk1, hdn⟩, hfu, hsl, hwa⟩ e1
  simp only at hk1 hdn hfu hsl hwa
  simp only [List.cons_append, List.nil_append]
  repeat' (first | with_reducible refine sw_op ?_ | with_reducible refine sw_op_ ?_ | with_reducible refine sw_nil ?_ | with_reducible refine sq_then ?_ | with_reducible refine sc_seq ?_ | with_reducible refine sc_region ?_ | with_reducible refine sw_guard_skip ?_ | with_reducible refine sw_guard_skip_ ?_ | with_reducible refine sw_guard_run ?_ | with_reducible refine sc_cond_true ?_ | with_reducible refine sc_cond_false ?_ | with_reducible refine sc_ret ?_ | with_reducible refine sq_then_ret ?_ | with_reducible refine sc_skip ?_ | with_reducible refine sc_block ?_ | with_reducible refine sq_block ?_ | with_reducible refine sq_block_ret ?_ | with_reducible refine sc_exit ?_ | with_reducible refine sq_then_exit ?_ | with_reducible refine sq_block_exit ?_ | with_reducible refine sq_block_past ?_ | with_reducible refine sq_round_ret ?_ | with_reducible refine sq_round_exit ?_ | (with_reducible refine sc_cond (fun h => ?_) (fun h => ?_)) <;> (try (exfalso; first | contradiction | omega | exact h Iff.rfl)) | fail)
  · have hk2 : k < os2.length := by omega
    obtain ⟨hwf, b, off, rfl, hcell⟩ := h2 k hk2
    haveI := hwf.keep.one
    haveI := hwf.odd.one
    have hf1 : s.fuse ≠ 1 := by omega
    refine sw_index (by omega) ?_
    refine sw_load_agg (sz := 7) (vs := op7v os2[k]) rfl (fun w hw j v hj => ro_cell (W := W) (by simpa using hcell j v hj) w hw) ?_
    refine sw_alloc fun ob => ?_
    refine sw_store_agg ?_
    repeat' (first | with_reducible refine sw_op ?_ | with_reducible refine sw_op_ ?_ | with_reducible refine sw_nil ?_ | with_reducible refine sq_then ?_ | with_reducible refine sc_seq ?_ | with_reducible refine sc_region ?_ | with_reducible refine sw_guard_skip ?_ | with_reducible refine sw_guard_skip_ ?_ | with_reducible refine sw_guard_run ?_ | with_reducible refine sc_cond_true ?_ | with_reducible refine sc_cond_false ?_ | with_reducible refine sc_ret ?_ | with_reducible refine sq_then_ret ?_ | with_reducible refine sc_skip ?_ | with_reducible refine sc_block ?_ | with_reducible refine sq_block ?_ | with_reducible refine sq_block_ret ?_ | with_reducible refine sc_exit ?_ | with_reducible refine sq_then_exit ?_ | with_reducible refine sq_block_exit ?_ | with_reducible refine sq_block_past ?_ | with_reducible refine sq_round_ret ?_ | with_reducible refine sq_round_exit ?_ | fail)
    refine sc_drawG (m := 10) ([(ob, pts ob (.cells (op7v os2[k]).toArray 73 (0, 0)))]) (by kernel_rfl) rfl ?_
    all_goals (first | refine sg_take 0 (by repeat' (first | with_reducible exact calm_post | with_reducible refine Calm.then ?_ | with_reducible refine Calm.block ?_ | with_reducible refine Calm.round ?_)) rfl (by kernel_rfl) (by kernel_rfl) (by kernel_rfl) ?_)
    all_goals (first | refine sg_take 1 (by repeat' (first | with_reducible exact calm_post | with_reducible refine Calm.then ?_ | with_reducible refine Calm.block ?_ | with_reducible refine Calm.round ?_)) rfl (by kernel_rfl) (by kernel_rfl) (by kernel_rfl) ?_)
    all_goals (first | refine sg_take 2 (by repeat' (first | with_reducible exact calm_post | with_reducible refine Calm.then ?_ | with_reducible refine Calm.block ?_ | with_reducible refine Calm.round ?_)) rfl (by kernel_rfl) (by kernel_rfl) (by kernel_rfl) ?_)
    all_goals (first | refine sg_take 3 (by repeat' (first | with_reducible exact calm_post | with_reducible refine Calm.then ?_ | with_reducible refine Calm.block ?_ | with_reducible refine Calm.round ?_)) rfl (by kernel_rfl) (by kernel_rfl) (by kernel_rfl) ?_)
    all_goals (first | refine sg_take 4 (by repeat' (first | with_reducible exact calm_post | with_reducible refine Calm.then ?_ | with_reducible refine Calm.block ?_ | with_reducible refine Calm.round ?_)) rfl (by kernel_rfl) (by kernel_rfl) (by kernel_rfl) ?_)
    all_goals (first | refine sg_take 5 (by repeat' (first | with_reducible exact calm_post | with_reducible refine Calm.then ?_ | with_reducible refine Calm.block ?_ | with_reducible refine Calm.round ?_)) rfl (by kernel_rfl) (by kernel_rfl) (by kernel_rfl) ?_)
    all_goals (first | refine sg_take 6 (by repeat' (first | with_reducible exact calm_post | with_reducible refine Calm.then ?_ | with_reducible refine Calm.block ?_ | with_reducible refine Calm.round ?_)) rfl (by kernel_rfl) (by kernel_rfl) (by kernel_rfl) ?_)
    all_goals (refine sg_one 7 rfl (by kernel_rfl) rfl ?_)
    all_goals (repeat' (first | with_reducible refine sw_op ?_ | with_reducible refine sw_op_ ?_ | ((with_reducible refine sw_call (l2sector_ok _ _ hwf.a hwf.b) ?_); rintro _ _ ⟨q, r, rfl, rfl⟩) | ((with_reducible refine sw_call (dWrite_f0 p q s _ _ 512 os2[k].at' (secOf os2[k].a os2[k].b) (secOf_wf hwf.a hwf.b) (by simp) reads_row hf1) ?_); rintro _ _ (⟨hbad, rfl, rfl⟩ | ⟨hok, rfl, rfl⟩)) | with_reducible refine sg_back ?_ | with_reducible refine sw_nil ?_ | with_reducible refine sq_then ?_ | with_reducible refine sc_seq ?_ | with_reducible refine sc_region ?_ | with_reducible refine sw_guard_skip ?_ | with_reducible refine sw_guard_skip_ ?_ | with_reducible refine sw_guard_run ?_ | with_reducible refine sc_cond_true ?_ | with_reducible refine sc_cond_false ?_ | with_reducible refine sc_ret ?_ | with_reducible refine sq_then_ret ?_ | with_reducible refine sc_skip ?_ | with_reducible refine sc_block ?_ | with_reducible refine sq_block ?_ | with_reducible refine sq_block_ret ?_ | with_reducible refine sc_exit ?_ | with_reducible refine sq_then_exit ?_ | with_reducible refine sq_block_exit ?_ | with_reducible refine sq_block_past ?_ | with_reducible refine sq_round_ret ?_ | with_reducible refine sq_round_exit ?_ | fail))
    all_goals (refine sg_one 8 rfl (by kernel_rfl) rfl ?_)
    all_goals (repeat' (first | with_reducible refine sw_op ?_ | with_reducible refine sw_op_ ?_ | ((with_reducible refine sw_call (l2sector_ok _ _ hwf.a hwf.b) ?_); rintro _ _ ⟨q, r, rfl, rfl⟩) | ((with_reducible refine sw_call (dWrite_f0 p q s _ _ 512 os2[k].at' (secOf os2[k].a os2[k].b) (secOf_wf hwf.a hwf.b) (by simp) reads_row hf1) ?_); rintro _ _ (⟨hbad, rfl, rfl⟩ | ⟨hok, rfl, rfl⟩)) | with_reducible refine sg_back ?_ | with_reducible refine sw_nil ?_ | with_reducible refine sq_then ?_ | with_reducible refine sc_seq ?_ | with_reducible refine sc_region ?_ | with_reducible refine sw_guard_skip ?_ | with_reducible refine sw_guard_skip_ ?_ | with_reducible refine sw_guard_run ?_ | with_reducible refine sc_cond_true ?_ | with_reducible refine sc_cond_false ?_ | with_reducible refine sc_ret ?_ | with_reducible refine sq_then_ret ?_ | with_reducible refine sc_skip ?_ | with_reducible refine sc_block ?_ | with_reducible refine sq_block ?_ | with_reducible refine sq_block_ret ?_ | with_reducible refine sc_exit ?_ | with_reducible refine sq_then_exit ?_ | with_reducible refine sq_block_exit ?_ | with_reducible refine sq_block_past ?_ | with_reducible refine sq_round_ret ?_ | with_reducible refine sq_round_exit ?_ | fail))
    all_goals (first | refine sg_take 9 (by repeat' (first | with_reducible exact calm_post | with_reducible refine Calm.then ?_ | with_reducible refine Calm.block ?_ | with_reducible refine Calm.round ?_)) rfl (by kernel_rfl) (by kernel_rfl) (by kernel_rfl) ?_)
    all_goals (refine sg_done (by kernel_rfl) rfl ?_)
    · repeat' (first | with_reducible refine sw_in (by omega) ?_ | with_reducible refine sw_op ?_ | with_reducible refine sw_op_ ?_ | with_reducible refine sw_nil ?_ | with_reducible refine sq_then ?_ | with_reducible refine sc_seq ?_ | with_reducible refine sc_region ?_ | with_reducible refine sw_guard_skip ?_ | with_reducible refine sw_guard_skip_ ?_ | with_reducible refine sw_guard_run ?_ | with_reducible refine sc_cond_true ?_ | with_reducible refine sc_cond_false ?_ | with_reducible refine sc_ret ?_ | with_reducible refine sq_then_ret ?_ | with_reducible refine sc_skip ?_ | with_reducible refine sc_block ?_ | with_reducible refine sq_block ?_ | with_reducible refine sq_block_ret ?_ | with_reducible refine sc_exit ?_ | with_reducible refine sq_then_exit ?_ | with_reducible refine sq_block_exit ?_ | with_reducible refine sq_block_past ?_ | with_reducible refine sq_round_ret ?_ | with_reducible refine sq_round_exit ?_ | (with_reducible refine sc_cond (fun h => ?_) (fun h => ?_)) <;> (try (exfalso; first | contradiction | omega | exact h Iff.rfl)) | fail)
      refine sq_round ⟨(k + 1, s, f, g), ⟨hk2, hdn⟩, hfu, hsl, hwa⟩ ?_ ?_ ?_
      · show os2.length - (k + 1) < os2.length - k
        omega
      · repeat' (first | exact says_nil | refine says_cons rfl ?_ | refine says_cons (by simp) ?_)
      · repeat' (first | with_reducible exact Ent.refl _ | with_reducible refine Ent.take_eq ?_ ?_ | rfl | with_reducible refine Ent.trans (Ent.drop _ _) ?_)
    · repeat' (first | with_reducible refine sw_in (by omega) ?_ | with_reducible refine sw_op ?_ | with_reducible refine sw_op_ ?_ | with_reducible refine sw_delete ?_ | with_reducible refine sw_nil ?_ | with_reducible refine sq_then ?_ | with_reducible refine sc_seq ?_ | with_reducible refine sc_region ?_ | with_reducible refine sw_guard_skip ?_ | with_reducible refine sw_guard_skip_ ?_ | with_reducible refine sw_guard_run ?_ | with_reducible refine sc_cond_true ?_ | with_reducible refine sc_cond_false ?_ | with_reducible refine sc_ret ?_ | with_reducible refine sq_then_ret ?_ | with_reducible refine sc_skip ?_ | with_reducible refine sc_block ?_ | with_reducible refine sq_block ?_ | with_reducible refine sq_block_ret ?_ | with_reducible refine sc_exit ?_ | with_reducible refine sq_then_exit ?_ | with_reducible refine sq_block_exit ?_ | with_reducible refine sq_block_past ?_ | with_reducible refine sq_round_ret ?_ | with_reducible refine sq_round_exit ?_ | (with_reducible refine sc_cond (fun h => ?_) (fun h => ?_)) <;> (try (exfalso; first | contradiction | omega | exact h Iff.rfl)) | fail)
      refine sq_round ⟨(k + 1, s.wrote os2[k].at' (secOf os2[k].a os2[k].b), mdel f os2[k].at', fun j => if j = os2[k].at' then none else g j), ⟨hk2, hdn⟩, ?_, hsl, hwa.write⟩ ?_ ?_ ?_
      · show (if s.fuse = 0 then (0 : Int) else s.fuse - 1) = 0
        rw [if_pos hfu]
      · show os2.length - (k + 1) < os2.length - k
        omega
      · repeat' (first | exact says_nil | refine says_cons rfl ?_ | refine says_cons (by simp) ?_)
      · show Ent _ ((wm + 1, ScD (mdel f os2[k].at') (fun j => if j = os2[k].at' then none else g j)) :: (wm, MapI .i64 wm (mdel f os2[k].at')) :: (p, DISK p (s.wrote os2[k].at' (secOf os2[k].a os2[k].b))) :: (0, ro W) :: F)
        refine Ent.trans (B := (wm + 1, ScD f g) :: (wm, MapI .i64 wm (mdel f os2[k].at')) :: (p, DISK p (s.wrote os2[k].at' (secOf os2[k].a os2[k].b))) :: (0, ro W) :: F) ?_ (Ent.head fun _ h => ScD.del h)
        repeat' (first | with_reducible exact Ent.refl _ | with_reducible refine Ent.take_eq ?_ ?_ | rfl | with_reducible refine Ent.trans (Ent.drop _ _) ?_)
  have hb0 : s.looks 0 = 0 := Dk.looks_ok hdn (by omega) (by omega)
  refine DISK.scwf' (p := p) (s := s) fun hw => ?_
  refine sw_call (dCrash_ok p 0 s _ _ bs hkb (by omega) hb0) ?_
  rintro _ _ ⟨ks, hks, rfl, rfl⟩
  repeat' (first | with_reducible refine sw_op ?_ | with_reducible refine sw_op_ ?_ | ((with_reducible refine sw_call (dRestart_up p _) ?_); rintro _ _ ⟨rfl, rfl⟩) | with_reducible refine sw_nil ?_ | with_reducible refine sq_then ?_ | with_reducible refine sc_seq ?_ | with_reducible refine sc_region ?_ | with_reducible refine sw_guard_skip ?_ | with_reducible refine sw_guard_skip_ ?_ | with_reducible refine sw_guard_run ?_ | with_reducible refine sc_cond_true ?_ | with_reducible refine sc_cond_false ?_ | with_reducible refine sc_ret ?_ | with_reducible refine sq_then_ret ?_ | with_reducible refine sc_skip ?_ | with_reducible refine sc_block ?_ | with_reducible refine sq_block ?_ | with_reducible refine sq_block_ret ?_ | with_reducible refine sc_exit ?_ | with_reducible refine sq_then_exit ?_ | with_reducible refine sq_block_exit ?_ | with_reducible refine sq_block_past ?_ | with_reducible refine sq_round_ret ?_ | with_reducible refine sq_round_exit ?_ | (with_reducible refine sc_cond (fun h => ?_) (fun h => ?_)) <;> (try (exfalso; first | contradiction | omega | exact h Iff.rfl)) | (with_reducible refine sw_guard_split (fun h => ?_) (fun h => ?_)) <;> (try (exfalso; first | contradiction | omega | exact h Iff.rfl)) | (with_reducible refine sw_pick (fun h => ?_) (fun h => ?_)) <;> (try (exfalso; first | contradiction | omega | exact h Iff.rfl)) | fail)
  obtain ⟨M, hM, hMm⟩ : ∃ M : Nat, (if (64 : Int) < m then (64 : Int) else m) = M ∧ M ≤ m := by
    by_cases h : (64 : Int) < m
    · exact ⟨64, by rw [if_pos h]; rfl, by omega⟩
    · exact ⟨m, by rw [if_neg h], Nat.le_refl _⟩
  rw [hM]
  have h5d : (s.gone ks bs).up.down = false := rfl
  have h5l : (s.gone ks bs).up.sure.length = m := by
    show (goS s.dirty ks bs s.sure).length = m
    rw [goS_len, hsl]
  have h5n : ∀ i : Int, ∀ xs, g i = some xs → (s.gone ks bs).up.now i = xs ∧ SecWf xs := fun i xs hg => by
    obtain ⟨⟨h0, h3⟩, h4⟩ := hwa i xs hg
    have hni : i ∉ ks := fun hm => by rw [hks.mem, h4] at hm; cases hm
    have h6 := Dk.gone_miss (bs := bs) hw hks h0 hni
    refine ⟨?_, hw.sec xs (List.mem_of_getElem? h3)⟩
    rw [Dk.now_sure rfl]
    show ((s.gone ks bs).sure[i.toNat]?).getD [] = xs
    rw [h6, h3]; rfl
  generalize (s.gone ks bs).up = s5 at h5d h5l h5n
  refine sc_loop (α := { i : Nat // i ≤ M }) (fun i => [(9, .pointer (some ⟨p, 0, none⟩)), (11, .map (some wm)), (100, .int .i64 M), (101, .int .i64 i.1)])
    (fun _ => (wm + 1, ScD f g) :: (wm, MapI .i64 wm f) :: (p, DISK p s5) :: (0, ro W) :: F)
    (fun i => M - i.1) ⟨0, Nat.zero_le _⟩ ?_ ?_ ?_
  · repeat' (first | exact says_nil | refine says_cons rfl ?_ | refine says_cons (by simp) ?_)
  · repeat' (first | with_reducible exact Ent.refl _ | with_reducible refine Ent.take_eq ?_ ?_ | rfl | with_reducible refine Ent.trans (Ent.drop _ _) ?_)
  rintro ⟨i, hi⟩ e2
  simp only [List.cons_append, List.nil_append]
  repeat' (first | with_reducible refine sw_op ?_ | with_reducible refine sw_op_ ?_ | with_reducible refine sw_nil ?_ | with_reducible refine sq_then ?_ | with_reducible refine sc_seq ?_ | with_reducible refine sc_region ?_ | with_reducible refine sw_guard_skip ?_ | with_reducible refine sw_guard_skip_ ?_ | with_reducible refine sw_guard_run ?_ | with_reducible refine sc_cond_true ?_ | with_reducible refine sc_cond_false ?_ | with_reducible refine sc_ret ?_ | with_reducible refine sq_then_ret ?_ | with_reducible refine sc_skip ?_ | with_reducible refine sc_block ?_ | with_reducible refine sq_block ?_ | with_reducible refine sq_block_ret ?_ | with_reducible refine sc_exit ?_ | with_reducible refine sq_then_exit ?_ | with_reducible refine sq_block_exit ?_ | with_reducible refine sq_block_past ?_ | with_reducible refine sq_round_ret ?_ | with_reducible refine sq_round_exit ?_ | (with_reducible refine sc_cond (fun h => ?_) (fun h => ?_)) <;> (try (exfalso; first | contradiction | omega | exact h Iff.rfl)) | fail)
  · have hlt : i < M := by omega
    have hlk : s5.looks i = 0 := Dk.looks_ok h5d (by omega) (by omega)
    refine sw_call (dRead_ok p s5 i hlk) ?_
    rintro _ _ ⟨bx, rfl, rfl⟩
    repeat' (first | with_reducible refine sw_op ?_ | with_reducible refine sw_op_ ?_ | with_reducible refine sw_nil ?_ | with_reducible refine sq_then ?_ | with_reducible refine sc_seq ?_ | with_reducible refine sc_region ?_ | with_reducible refine sw_guard_skip ?_ | with_reducible refine sw_guard_skip_ ?_ | with_reducible refine sw_guard_run ?_ | with_reducible refine sc_cond_true ?_ | with_reducible refine sc_cond_false ?_ | with_reducible refine sc_ret ?_ | with_reducible refine sq_then_ret ?_ | with_reducible refine sc_skip ?_ | with_reducible refine sc_block ?_ | with_reducible refine sq_block ?_ | with_reducible refine sq_block_ret ?_ | with_reducible refine sc_exit ?_ | with_reducible refine sq_then_exit ?_ | with_reducible refine sq_block_exit ?_ | with_reducible refine sq_block_past ?_ | with_reducible refine sq_round_ret ?_ | with_reducible refine sq_round_exit ?_ | fail)
    with_reducible refine sw_last (f := f) (g := g) (wm + 1) (wm + 2) (i : Int) (fun hf hg => ?_) fun b2 c2' r2 xs2 hf hg => ?_
    · rw [hf]
      repeat' (first | with_reducible refine sw_in (by omega) ?_ | with_reducible refine sw_op ?_ | with_reducible refine sw_op_ ?_ | with_reducible refine sw_nil ?_ | with_reducible refine sq_then ?_ | with_reducible refine sc_seq ?_ | with_reducible refine sc_region ?_ | with_reducible refine sw_guard_skip ?_ | with_reducible refine sw_guard_skip_ ?_ | with_reducible refine sw_guard_run ?_ | with_reducible refine sc_cond_true ?_ | with_reducible refine sc_cond_false ?_ | with_reducible refine sc_ret ?_ | with_reducible refine sq_then_ret ?_ | with_reducible refine sc_skip ?_ | with_reducible refine sc_block ?_ | with_reducible refine sq_block ?_ | with_reducible refine sq_block_ret ?_ | with_reducible refine sc_exit ?_ | with_reducible refine sq_then_exit ?_ | with_reducible refine sq_block_exit ?_ | with_reducible refine sq_block_past ?_ | with_reducible refine sq_round_ret ?_ | with_reducible refine sq_round_exit ?_ | (with_reducible refine sc_cond (fun h => ?_) (fun h => ?_)) <;> (try (exfalso; first | contradiction | omega | exact h Iff.rfl)) | (with_reducible refine sw_guard_split (fun h => ?_) (fun h => ?_)) <;> (try (exfalso; first | contradiction | omega | exact h Iff.rfl)) | (with_reducible refine sw_pick (fun h => ?_) (fun h => ?_)) <;> (try (exfalso; first | contradiction | omega | exact h Iff.rfl)) | fail)
      refine sq_round ⟨i + 1, hlt⟩ ?_ ?_ ?_
      · show M - (i + 1) < M - i
        omega
      · repeat' (first | exact says_nil | refine says_cons rfl ?_ | refine says_cons (by simp) ?_)
      · repeat' (first | with_reducible exact Ent.refl _ | with_reducible refine Ent.take_eq ?_ ?_ | rfl | with_reducible refine Ent.trans (Ent.drop _ _) ?_)
    · obtain ⟨hnow, hwx⟩ := h5n i xs2 hg
      rw [hf, hnow]
      repeat' (first | with_reducible refine sw_op ?_ | with_reducible refine sw_op_ ?_ | with_reducible refine sw_nil ?_ | with_reducible refine sq_then ?_ | with_reducible refine sc_seq ?_ | with_reducible refine sc_region ?_ | with_reducible refine sw_guard_skip ?_ | with_reducible refine sw_guard_skip_ ?_ | with_reducible refine sw_guard_run ?_ | with_reducible refine sc_cond_true ?_ | with_reducible refine sc_cond_false ?_ | with_reducible refine sc_ret ?_ | with_reducible refine sq_then_ret ?_ | with_reducible refine sc_skip ?_ | with_reducible refine sc_block ?_ | with_reducible refine sq_block ?_ | with_reducible refine sq_block_ret ?_ | with_reducible refine sc_exit ?_ | with_reducible refine sq_then_exit ?_ | with_reducible refine sq_block_exit ?_ | with_reducible refine sq_block_past ?_ | with_reducible refine sq_round_ret ?_ | with_reducible refine sq_round_exit ?_ | (with_reducible refine sc_cond (fun h => ?_) (fun h => ?_)) <;> (try (exfalso; first | contradiction | omega | exact h Iff.rfl)) | (with_reducible refine sw_guard_split (fun h => ?_) (fun h => ?_)) <;> (try (exfalso; first | contradiction | omega | exact h Iff.rfl)) | (with_reducible refine sw_pick (fun h => ?_) (fun h => ?_)) <;> (try (exfalso; first | contradiction | omega | exact h Iff.rfl)) | fail)
      refine sw_call (bEqual_ok bx (wm + 2) _ _ _ _ 512 512 _ _ xs2 xs2 reads_row0 reads_irow hwx.len rfl hwx.byte hwx.byte) ?_
      rintro _ _ ⟨rfl, rfl⟩
      repeat' (first | with_reducible refine sw_in (by omega) ?_ | with_reducible refine sw_op ?_ | with_reducible refine sw_op_ ?_ | with_reducible refine sw_nil ?_ | with_reducible refine sq_then ?_ | with_reducible refine sc_seq ?_ | with_reducible refine sc_region ?_ | with_reducible refine sw_guard_skip ?_ | with_reducible refine sw_guard_skip_ ?_ | with_reducible refine sw_guard_run ?_ | with_reducible refine sc_cond_true ?_ | with_reducible refine sc_cond_false ?_ | with_reducible refine sc_ret ?_ | with_reducible refine sq_then_ret ?_ | with_reducible refine sc_skip ?_ | with_reducible refine sc_block ?_ | with_reducible refine sq_block ?_ | with_reducible refine sq_block_ret ?_ | with_reducible refine sc_exit ?_ | with_reducible refine sq_then_exit ?_ | with_reducible refine sq_block_exit ?_ | with_reducible refine sq_block_past ?_ | with_reducible refine sq_round_ret ?_ | with_reducible refine sq_round_exit ?_ | (with_reducible refine sc_cond (fun h => ?_) (fun h => ?_)) <;> (try (exfalso; first | contradiction | omega | exact h Iff.rfl)) | (with_reducible refine sw_guard_split (fun h => ?_) (fun h => ?_)) <;> (try (exfalso; first | contradiction | omega | exact h Iff.rfl)) | (with_reducible refine sw_pick (fun h => ?_) (fun h => ?_)) <;> (try (exfalso; first | contradiction | omega | exact h Iff.rfl)) | fail)
      refine sq_round ⟨i + 1, hlt⟩ ?_ ?_ ?_
      · show M - (i + 1) < M - i
        omega
      · repeat' (first | exact says_nil | refine says_cons rfl ?_ | refine says_cons (by simp) ?_)
      · repeat' (first | with_reducible exact Ent.refl _ | with_reducible refine Ent.take_eq ?_ ?_ | rfl | with_reducible refine Ent.trans (Ent.drop _ _) ?_)
  · refine sq_ret1 Try.results7 ?_
    exact ⟨_, ⟨rfl, F, rfl⟩, by repeat' (first | with_reducible exact Ent.refl _ | with_reducible refine Ent.take_eq ?_ ?_ | rfl | with_reducible refine Ent.trans (Ent.drop _ _) ?_)⟩

theorem sure_walk {W : World} {n : Int} {a1 a2 : Option Addr} {os1 os2 : List Op7} {c1 c2 : Nat} {kv : Value} {bs : List Bool} (h1 : Ops7 W a1 os1) (h2 : Ops7 W a2 os2) (l1 : os1.length ≤ maxLen) (l2 : os2.length ≤ maxLen) (hk : RdW W kv (bs.map Value.bool)) :
    Calls Try.prog 7 #[.int .i64 n, .slice a1 os1.length c1, .slice a2 os2.length c2, kv] W fun e W' => e = .returned (.bool true) ∧ Below W.heap.size W W' := call_of_spec W (diskSure_ok W n a1 a2 os1 os2 c1 c2 kv bs h1 h2 l1 l2 hk)
end Go.Gsl
