/- MasterDoes: a step. -/
import Derived.Test.YtbmdaiopnnmamaaGreatDoBQ
import Derived.Test.YtbmdaiopnnmamaaGreatGM
import Derived.Test.YtbmdaiopnnmamaaGreatGF
namespace Go.Gsl
set_option linter.unusedVariables false
open Go.Proofs Go.RowKit

theorem MW.unique {s s1 s2 : Dk} {a : Int} {m : Ms} {e1 e2 : Int} (h1 : MW s a m s1 e1) (h2 : MW s a m s2 e2) : s1 = s2 ∧ e1 = e2 := by
  rcases h1 with ⟨a1, rfl, rfl⟩ | ⟨a1, b1, rfl, rfl⟩ | ⟨a1, b1, c1, rfl, ks, hk, rfl⟩ | ⟨a1, b1, c1, d1, rfl, ks, hk, rfl⟩ | ⟨a1, b1, c1, d1, rfl, rfl⟩ <;>
    rcases h2 with ⟨a2, rfl, rfl⟩ | ⟨a2, b2, rfl, rfl⟩ | ⟨a2, b2, c2, rfl, ks2, hk2, rfl⟩ | ⟨a2, b2, c2, d2, rfl, ks2, hk2, rfl⟩ | ⟨a2, b2, c2, d2, rfl, rfl⟩
  all_goals first
    | exact ⟨rfl, rfl⟩
    | exact absurd a2 a1
    | exact absurd a1 a2
    | exact absurd b2 b1
    | exact absurd b1 b2
    | exact absurd c2 c1
    | exact absurd c1 c2
    | exact absurd d2 d1
    | exact absurd d1 d2
    | (obtain rfl := KeysD.unique hk hk2; exact ⟨rfl, rfl⟩)

/-- one operation of a script -/
structure Op13 where
  d : Int
  m : Ms
  at' : Int
  dv : Value
  data : List Int
  n : Int
  kv : Value
  keep : List Bool
instance : Inhabited Op13 := ⟨⟨0, Ms.zero, 0, .slice none 0 0, [], 0, .slice none 0 0, []⟩⟩
abbrev op13v (o : Op13) : List Value := [.int .i64 o.d, .int .i64 o.m.seq, .int .i64 o.m.area, .int .i64 o.m.chunks, .int .i64 o.m.ts, .int .i64 o.m.sector, .int .i64 o.m.offset, .int .i64 o.m.number, .int .i64 o.m.run, .int .i64 o.at', o.dv, .int .i64 o.n, o.kv]
structure Op13.Wf (W : World) (o : Op13) : Prop where
  m : o.m.In
  n : -9223372036854775808 ≤ o.n ∧ o.n ≤ 9223372036854775807
  keep : RdW W o.kv (o.keep.map Value.bool)
  data : RdW W o.dv (o.data.map (Value.int .u8))
  byt : Byt o.data

/-- 512 bytes that begin as some do -/
def padS (xs : List Int) : List Int := xs.take 512 ++ List.replicate (512 - (xs.take 512).length) 0
theorem padS_len (xs : List Int) : (padS xs).length = 512 := by
  unfold padS
  rw [List.length_append, List.length_replicate, List.length_take]
  omega
theorem padS_wf {xs : List Int} (h : Byt xs) : SecWf (padS xs) := ⟨padS_len xs, fun x hx => by
  unfold padS at hx
  rcases List.mem_append.1 hx with h1 | h1
  · exact h x (List.mem_of_mem_take h1)
  · rw [List.eq_of_mem_replicate h1]; omega⟩
theorem l20sector_ok (W : World) (v : Value) (xs : List Int) (hv : RdW W v (xs.map (Value.int .u8))) : Spec Tryz.prog 28 [v] [0] [ro W]
    fun F w Rs' => ∃ b, w = .slice (some ⟨b, 0, none⟩) 512 512 ∧ Rs' = (b, pts b (.cells ((padS xs).map (Value.int .u8)).toArray 5 (0, 0))) :: (0, ro W) :: F := by
  obtain ⟨a, c, rfl, _, _, hr⟩ := hv
  rw [List.length_map]
  have hrd : Reads (ro W) a (xs.map (Value.int .u8)) := reads_ro hr
  refine spec_of Tryz.func28 rfl Tryz.ntmps28 rfl ?_
  intro w0 F
  repeat' (first | with_reducible (first | refine sw_op ?_ | refine sw_op_ ?_) | with_reducible refine sw_makeSlice 512 512 ⟨rfl, rfl, by omega, by omega, by omega⟩ fun b => ?_ | with_reducible (first | refine sw_nil ?_ | refine sq_then ?_ | refine sc_seq ?_ | refine sc_region ?_ | refine sw_guard_skip ?_ | refine sw_guard_skip_ ?_ | refine sw_guard_run ?_ | refine sc_cond_true ?_ | refine sc_cond_false ?_ | refine sc_ret ?_ | refine sq_then_ret ?_ | refine sc_skip ?_ | refine sc_block ?_ | refine sq_block ?_ | refine sq_block_ret ?_ | refine sc_exit ?_ | refine sq_then_exit ?_ | refine sq_block_exit ?_ | refine sq_block_past ?_ | refine sq_round_ret ?_ | refine sq_round_exit ?_) | fail)
  refine sw_copy ((xs.take 512).map (Value.int .u8)) ?_ (one_ints _ _) ⟨by rw [List.length_map, List.length_take]; omega, by rw [List.length_map, List.length_take, List.length_replicate]; omega⟩ ?_
  · intro w hw j u hj
    refine hrd.sat (k := 0) hw j u ?_
    rw [List.getElem?_map, List.getElem?_take] at hj
    split at hj
    · rw [List.getElem?_map]; exact hj
    · cases hj
  have e1 : (List.replicate 512 (Value.int .u8 0)).take 0 ++ (xs.take 512).map (Value.int .u8) ++ (List.replicate 512 (Value.int .u8 0)).drop (0 + ((xs.take 512).map (Value.int .u8)).length) = (padS xs).map (Value.int .u8) := by
    unfold padS
    rw [List.take_zero, List.nil_append, List.drop_replicate, Nat.zero_add, List.length_map, List.map_append, List.map_replicate]
  rw [e1]
  repeat' (first | with_reducible (first | refine sw_op ?_ | refine sw_op_ ?_) | with_reducible (first | refine sw_nil ?_ | refine sq_then ?_ | refine sc_seq ?_ | refine sc_region ?_ | refine sw_guard_skip ?_ | refine sw_guard_skip_ ?_ | refine sw_guard_run ?_ | refine sc_cond_true ?_ | refine sc_cond_false ?_ | refine sc_ret ?_ | refine sq_then_ret ?_ | refine sc_skip ?_ | refine sc_block ?_ | refine sq_block ?_ | refine sq_block_ret ?_ | refine sc_exit ?_ | refine sq_then_exit ?_ | refine sq_block_exit ?_ | refine sq_block_past ?_ | refine sq_round_ret ?_ | refine sq_round_exit ?_) | fail)
  refine sq_ret1 Tryz.results28 ?_
  refine ⟨_, ⟨b, rfl, rfl⟩, ?_⟩
  repeat' (first | with_reducible exact Ent.refl _ | with_reducible refine Ent.take_eq ?_ ?_ | rfl | with_reducible refine Ent.trans (Ent.drop _ _) ?_)


set_option maxHeartbeats 4000000 in
set_option maxRecDepth 20000 in
theorem l20step_ok (W : World) (pd pr : Nat) (s : Dk) (a : Int) (ha : 0 ≤ a ∧ a ≤ 16384) (o : Op13) (ho : o.Wf W) (hz : o.keep.length ≤ 140737488355328) :
    Spec Tryz.prog 9 [.pointer (some ⟨pd, 0, none⟩), .pointer (some ⟨pr, 0, none⟩), .int .i64 a, .agg (op13v o).toArray] [pd, pr, 0] [DISK pd s, REF pr s, ro W]
      fun F v Rs' => ∃ s', v = .bool true ∧ Rs' = (pd, DISK pd s') :: (pr, REF pr s') :: (0, ro W) :: F := by
  haveI := ho.keep.one
  haveI := ho.data.one
  have hwx := padS_wf ho.byt
  have hkb := ho.keep.bools
  refine spec_of Tryz.func9 rfl Tryz.ntmps9 rfl ?_
  intro w0 F
  repeat' (first | with_reducible (first | refine sw_op ?_ | refine sw_op_ ?_) | with_reducible (first | refine sw_nil ?_ | refine sq_then ?_ | refine sc_seq ?_ | refine sc_region ?_ | refine sw_guard_skip ?_ | refine sw_guard_skip_ ?_ | refine sw_guard_run ?_ | refine sc_cond_true ?_ | refine sc_cond_false ?_ | refine sc_ret ?_ | refine sq_then_ret ?_ | refine sc_skip ?_ | refine sc_block ?_ | refine sq_block ?_ | refine sq_block_ret ?_ | refine sc_exit ?_ | refine sq_then_exit ?_ | refine sq_block_exit ?_ | refine sq_block_past ?_ | refine sq_round_ret ?_ | refine sq_round_exit ?_) | fail)
  refine sw_box fun b7 => ?_
  repeat' (first | with_reducible (first | refine sw_op ?_ | refine sw_op_ ?_) | with_reducible (first | refine sw_nil ?_ | refine sq_then ?_ | refine sc_seq ?_ | refine sc_region ?_ | refine sw_guard_skip ?_ | refine sw_guard_skip_ ?_ | refine sw_guard_run ?_ | refine sc_cond_true ?_ | refine sc_cond_false ?_ | refine sc_ret ?_ | refine sq_then_ret ?_ | refine sc_skip ?_ | refine sc_block ?_ | refine sq_block ?_ | refine sq_block_ret ?_ | refine sc_exit ?_ | refine sq_then_exit ?_ | refine sq_block_exit ?_ | refine sq_block_past ?_ | refine sq_round_ret ?_ | refine sq_round_exit ?_) | (with_reducible refine sc_cond (fun h => ?_) (fun h => ?_)) <;> (try (exfalso; first | contradiction | omega | exact h Iff.rfl)) | fail)
  · -- a master is written
    refine sc_drawC (m := 12) ([(b7, pts b7 (.cells (op13v o).toArray 39 (0, 0)))]) (by repeat' (first | with_reducible exact calm_post | with_reducible refine Calm.then ?_ | with_reducible refine Calm.block ?_ | with_reducible refine Calm.round ?_ | with_reducible refine Calm.mark ?_)) (by kernel_rfl) rfl (fun hcalm => ?_)
    all_goals (first | refine sg_take 0 hcalm rfl (by kernel_rfl) (by kernel_rfl) (by kernel_rfl) ?_)
    all_goals (first | refine sg_take 1 hcalm rfl (by kernel_rfl) (by kernel_rfl) (by kernel_rfl) ?_)
    all_goals (first | refine sg_take 2 hcalm rfl (by kernel_rfl) (by kernel_rfl) (by kernel_rfl) ?_)
    all_goals (first | refine sg_take 3 hcalm rfl (by kernel_rfl) (by kernel_rfl) (by kernel_rfl) (h := runop_loadPart o.m.cs rfl rfl) ?_ | refine sg_take 3 hcalm rfl (by kernel_rfl) (by kernel_rfl) (by kernel_rfl) ?_)
    all_goals (first | refine sg_take 5 hcalm rfl (by kernel_rfl) (by kernel_rfl) (by kernel_rfl) ?_)
    all_goals (first | refine sg_take 6 hcalm rfl (by kernel_rfl) (by kernel_rfl) (by kernel_rfl) ?_)
    all_goals (first | refine sg_take 7 hcalm rfl (by kernel_rfl) (by kernel_rfl) (by kernel_rfl) ?_)
    all_goals (first | refine sg_take 8 hcalm rfl (by kernel_rfl) (by kernel_rfl) (by kernel_rfl) (h := runop_loadPart o.m.cs rfl rfl) ?_ | refine sg_take 8 hcalm rfl (by kernel_rfl) (by kernel_rfl) (by kernel_rfl) ?_)
    all_goals (refine sg_one 4 rfl (by kernel_rfl) rfl ?_)
    all_goals (repeat' (first | with_reducible (first | refine sw_op ?_ | refine sw_op_ ?_) | ((with_reducible refine sw_call (mWrite_ok pd s a o.m ho.m (by omega)) ?_); rintro _ _ ⟨s1, e1, hm1, rfl, rfl⟩) | ((with_reducible refine sw_call (q20Write_ok pr s a o.m ho.m (by omega)) ?_); rintro _ _ ⟨s2, e2, hm2, rfl, rfl⟩; obtain ⟨rfl, rfl⟩ := MW.unique hm1 hm2) | with_reducible refine sg_back ?_ | with_reducible (first | refine sw_nil ?_ | refine sq_then ?_ | refine sc_seq ?_ | refine sc_region ?_ | refine sw_guard_skip ?_ | refine sw_guard_skip_ ?_ | refine sw_guard_run ?_ | refine sc_cond_true ?_ | refine sc_cond_false ?_ | refine sc_ret ?_ | refine sq_then_ret ?_ | refine sc_skip ?_ | refine sc_block ?_ | refine sq_block ?_ | refine sq_block_ret ?_ | refine sc_exit ?_ | refine sq_then_exit ?_ | refine sq_block_exit ?_ | refine sq_block_past ?_ | refine sq_round_ret ?_ | refine sq_round_exit ?_) | fail))
    all_goals (refine sg_one 9 rfl (by kernel_rfl) rfl ?_)
    all_goals (repeat' (first | with_reducible (first | refine sw_op ?_ | refine sw_op_ ?_) | ((with_reducible refine sw_call (mWrite_ok pd s a o.m ho.m (by omega)) ?_); rintro _ _ ⟨s1, e1, hm1, rfl, rfl⟩) | ((with_reducible refine sw_call (q20Write_ok pr s a o.m ho.m (by omega)) ?_); rintro _ _ ⟨s2, e2, hm2, rfl, rfl⟩; obtain ⟨rfl, rfl⟩ := MW.unique hm1 hm2) | with_reducible refine sg_back ?_ | with_reducible (first | refine sw_nil ?_ | refine sq_then ?_ | refine sc_seq ?_ | refine sc_region ?_ | refine sw_guard_skip ?_ | refine sw_guard_skip_ ?_ | refine sw_guard_run ?_ | refine sc_cond_true ?_ | refine sc_cond_false ?_ | refine sc_ret ?_ | refine sq_then_ret ?_ | refine sc_skip ?_ | refine sc_block ?_ | refine sq_block ?_ | refine sq_block_ret ?_ | refine sc_exit ?_ | refine sq_then_exit ?_ | refine sq_block_exit ?_ | refine sq_block_past ?_ | refine sq_round_ret ?_ | refine sq_round_exit ?_) | fail))
    all_goals (first | refine sg_take 10 hcalm rfl (by kernel_rfl) (by kernel_rfl) (by kernel_rfl) ?_)
    all_goals (first | refine sg_take 11 hcalm rfl (by kernel_rfl) (by kernel_rfl) (by kernel_rfl) ?_)
    all_goals (refine sg_done (by kernel_rfl) rfl ?_)
    -- the step's answer: s1
    repeat' (first | with_reducible (first | refine sw_op ?_ | refine sw_op_ ?_) | with_reducible (first | refine sw_nil ?_ | refine sq_then ?_ | refine sc_seq ?_ | refine sc_region ?_ | refine sw_guard_skip ?_ | refine sw_guard_skip_ ?_ | refine sw_guard_run ?_ | refine sc_cond_true ?_ | refine sc_cond_false ?_ | refine sc_ret ?_ | refine sq_then_ret ?_ | refine sc_skip ?_ | refine sc_block ?_ | refine sq_block ?_ | refine sq_block_ret ?_ | refine sc_exit ?_ | refine sq_then_exit ?_ | refine sq_block_exit ?_ | refine sq_block_past ?_ | refine sq_round_ret ?_ | refine sq_round_exit ?_) | fail)
    refine sq_ret1 Tryz.results9 ?_
    refine ⟨_, ⟨s1, by simp, rfl⟩, ?_⟩
    repeat' (first | with_reducible exact Ent.refl _ | with_reducible refine Ent.take_eq ?_ ?_ | rfl | with_reducible refine Ent.trans (Ent.drop _ _) ?_)
  · -- bytes are written
    by_cases hlk : s.looks o.at' = 0
    · by_cases hf : s.fuse = 1
      · refine sc_drawC (m := 16) ([(b7, pts b7 (.cells (op13v o).toArray 39 (0, 0)))]) (by repeat' (first | with_reducible exact calm_post | with_reducible refine Calm.then ?_ | with_reducible refine Calm.block ?_ | with_reducible refine Calm.round ?_ | with_reducible refine Calm.mark ?_)) (by kernel_rfl) rfl (fun hcalm => ?_)
        all_goals (first | refine sg_take 0 hcalm rfl (by kernel_rfl) (by kernel_rfl) (by kernel_rfl) ?_)
        all_goals (first | refine sg_take 1 hcalm rfl (by kernel_rfl) (by kernel_rfl) (by kernel_rfl) ?_)
        all_goals (first | refine sg_take 2 hcalm rfl (by kernel_rfl) (by kernel_rfl) (by kernel_rfl) ?_)
        all_goals (first | refine sg_take 3 hcalm rfl (by kernel_rfl) (by kernel_rfl) (by kernel_rfl) ?_)
        all_goals (first | refine sg_take 4 hcalm rfl (by kernel_rfl) (by kernel_rfl) (by kernel_rfl) ?_)
        all_goals (first | refine sg_take 7 hcalm rfl (by kernel_rfl) (by kernel_rfl) (by kernel_rfl) ?_)
        all_goals (first | refine sg_take 8 hcalm rfl (by kernel_rfl) (by kernel_rfl) (by kernel_rfl) ?_)
        all_goals (first | refine sg_take 9 hcalm rfl (by kernel_rfl) (by kernel_rfl) (by kernel_rfl) ?_)
        all_goals (first | refine sg_take 10 hcalm rfl (by kernel_rfl) (by kernel_rfl) (by kernel_rfl) ?_)
        all_goals (first | refine sg_take 11 hcalm rfl (by kernel_rfl) (by kernel_rfl) (by kernel_rfl) ?_)
        all_goals (refine sg_one 5 rfl (by kernel_rfl) rfl ?_)
        all_goals (repeat' (first | with_reducible (first | refine sw_op ?_ | refine sw_op_ ?_) | ((with_reducible refine sw_call (l20sector_ok W _ _ ho.data) ?_); rintro _ _ ⟨q, rfl, rfl⟩) | ((with_reducible refine sw_call (dWrite_ok1 pd q _ _ _ 512 o.at' (padS o.data) hlk hwx (by simp) reads_row0 hf) ?_); rintro _ _ ⟨ks, hks, rfl, rfl⟩) | ((with_reducible refine sw_call (rWrite_ok1 pr q _ _ _ 512 o.at' (padS o.data) hlk hwx reads_row0 hf) ?_); rintro _ _ ⟨ks2, hks2, rfl, rfl⟩; obtain rfl := KeysD.unique hks hks2) | with_reducible refine sg_back ?_ | with_reducible (first | refine sw_nil ?_ | refine sq_then ?_ | refine sc_seq ?_ | refine sc_region ?_ | refine sw_guard_skip ?_ | refine sw_guard_skip_ ?_ | refine sw_guard_run ?_ | refine sc_cond_true ?_ | refine sc_cond_false ?_ | refine sc_ret ?_ | refine sq_then_ret ?_ | refine sc_skip ?_ | refine sc_block ?_ | refine sq_block ?_ | refine sq_block_ret ?_ | refine sc_exit ?_ | refine sq_then_exit ?_ | refine sq_block_exit ?_ | refine sq_block_past ?_ | refine sq_round_ret ?_ | refine sq_round_exit ?_) | fail))
        all_goals (refine sg_one 6 rfl (by kernel_rfl) rfl ?_)
        all_goals (repeat' (first | with_reducible (first | refine sw_op ?_ | refine sw_op_ ?_) | ((with_reducible refine sw_call (l20sector_ok W _ _ ho.data) ?_); rintro _ _ ⟨q, rfl, rfl⟩) | ((with_reducible refine sw_call (dWrite_ok1 pd q _ _ _ 512 o.at' (padS o.data) hlk hwx (by simp) reads_row0 hf) ?_); rintro _ _ ⟨ks, hks, rfl, rfl⟩) | ((with_reducible refine sw_call (rWrite_ok1 pr q _ _ _ 512 o.at' (padS o.data) hlk hwx reads_row0 hf) ?_); rintro _ _ ⟨ks2, hks2, rfl, rfl⟩; obtain rfl := KeysD.unique hks hks2) | with_reducible refine sg_back ?_ | with_reducible (first | refine sw_nil ?_ | refine sq_then ?_ | refine sc_seq ?_ | refine sc_region ?_ | refine sw_guard_skip ?_ | refine sw_guard_skip_ ?_ | refine sw_guard_run ?_ | refine sc_cond_true ?_ | refine sc_cond_false ?_ | refine sc_ret ?_ | refine sq_then_ret ?_ | refine sc_skip ?_ | refine sc_block ?_ | refine sq_block ?_ | refine sq_block_ret ?_ | refine sc_exit ?_ | refine sq_then_exit ?_ | refine sq_block_exit ?_ | refine sq_block_past ?_ | refine sq_round_ret ?_ | refine sq_round_exit ?_) | fail))
        all_goals (refine sg_one 12 rfl (by kernel_rfl) rfl ?_)
        all_goals (repeat' (first | with_reducible (first | refine sw_op ?_ | refine sw_op_ ?_) | ((with_reducible refine sw_call (l20sector_ok W _ _ ho.data) ?_); rintro _ _ ⟨q, rfl, rfl⟩) | ((with_reducible refine sw_call (dWrite_ok1 pd q _ _ _ 512 o.at' (padS o.data) hlk hwx (by simp) reads_row0 hf) ?_); rintro _ _ ⟨ks, hks, rfl, rfl⟩) | ((with_reducible refine sw_call (rWrite_ok1 pr q _ _ _ 512 o.at' (padS o.data) hlk hwx reads_row0 hf) ?_); rintro _ _ ⟨ks2, hks2, rfl, rfl⟩; obtain rfl := KeysD.unique hks hks2) | with_reducible refine sg_back ?_ | with_reducible (first | refine sw_nil ?_ | refine sq_then ?_ | refine sc_seq ?_ | refine sc_region ?_ | refine sw_guard_skip ?_ | refine sw_guard_skip_ ?_ | refine sw_guard_run ?_ | refine sc_cond_true ?_ | refine sc_cond_false ?_ | refine sc_ret ?_ | refine sq_then_ret ?_ | refine sc_skip ?_ | refine sc_block ?_ | refine sq_block ?_ | refine sq_block_ret ?_ | refine sc_exit ?_ | refine sq_then_exit ?_ | refine sq_block_exit ?_ | refine sq_block_past ?_ | refine sq_round_ret ?_ | refine sq_round_exit ?_) | fail))
        all_goals (refine sg_one 13 rfl (by kernel_rfl) rfl ?_)
        all_goals (repeat' (first | with_reducible (first | refine sw_op ?_ | refine sw_op_ ?_) | ((with_reducible refine sw_call (l20sector_ok W _ _ ho.data) ?_); rintro _ _ ⟨q, rfl, rfl⟩) | ((with_reducible refine sw_call (dWrite_ok1 pd q _ _ _ 512 o.at' (padS o.data) hlk hwx (by simp) reads_row0 hf) ?_); rintro _ _ ⟨ks, hks, rfl, rfl⟩) | ((with_reducible refine sw_call (rWrite_ok1 pr q _ _ _ 512 o.at' (padS o.data) hlk hwx reads_row0 hf) ?_); rintro _ _ ⟨ks2, hks2, rfl, rfl⟩; obtain rfl := KeysD.unique hks hks2) | with_reducible refine sg_back ?_ | with_reducible (first | refine sw_nil ?_ | refine sq_then ?_ | refine sc_seq ?_ | refine sc_region ?_ | refine sw_guard_skip ?_ | refine sw_guard_skip_ ?_ | refine sw_guard_run ?_ | refine sc_cond_true ?_ | refine sc_cond_false ?_ | refine sc_ret ?_ | refine sq_then_ret ?_ | refine sc_skip ?_ | refine sc_block ?_ | refine sq_block ?_ | refine sq_block_ret ?_ | refine sc_exit ?_ | refine sq_then_exit ?_ | refine sq_block_exit ?_ | refine sq_block_past ?_ | refine sq_round_ret ?_ | refine sq_round_exit ?_) | fail))
        all_goals (first | refine sg_take 14 hcalm rfl (by kernel_rfl) (by kernel_rfl) (by kernel_rfl) ?_)
        all_goals (first | refine sg_take 15 hcalm rfl (by kernel_rfl) (by kernel_rfl) (by kernel_rfl) ?_)
        all_goals (refine sg_done (by kernel_rfl) rfl ?_)
        -- the step's answer: (s.wrote o.at' (padS o.data)).gone ks s.keep
        repeat' (first | with_reducible (first | refine sw_op ?_ | refine sw_op_ ?_) | with_reducible (first | refine sw_nil ?_ | refine sq_then ?_ | refine sc_seq ?_ | refine sc_region ?_ | refine sw_guard_skip ?_ | refine sw_guard_skip_ ?_ | refine sw_guard_run ?_ | refine sc_cond_true ?_ | refine sc_cond_false ?_ | refine sc_ret ?_ | refine sq_then_ret ?_ | refine sc_skip ?_ | refine sc_block ?_ | refine sq_block ?_ | refine sq_block_ret ?_ | refine sc_exit ?_ | refine sq_then_exit ?_ | refine sq_block_exit ?_ | refine sq_block_past ?_ | refine sq_round_ret ?_ | refine sq_round_exit ?_) | fail)
        refine sq_ret1 Tryz.results9 ?_
        refine ⟨_, ⟨(s.wrote o.at' (padS o.data)).gone ks s.keep, by simp, rfl⟩, ?_⟩
        repeat' (first | with_reducible exact Ent.refl _ | with_reducible refine Ent.take_eq ?_ ?_ | rfl | with_reducible refine Ent.trans (Ent.drop _ _) ?_)
      · refine sc_drawC (m := 16) ([(b7, pts b7 (.cells (op13v o).toArray 39 (0, 0)))]) (by repeat' (first | with_reducible exact calm_post | with_reducible refine Calm.then ?_ | with_reducible refine Calm.block ?_ | with_reducible refine Calm.round ?_ | with_reducible refine Calm.mark ?_)) (by kernel_rfl) rfl (fun hcalm => ?_)
        all_goals (first | refine sg_take 0 hcalm rfl (by kernel_rfl) (by kernel_rfl) (by kernel_rfl) ?_)
        all_goals (first | refine sg_take 1 hcalm rfl (by kernel_rfl) (by kernel_rfl) (by kernel_rfl) ?_)
        all_goals (first | refine sg_take 2 hcalm rfl (by kernel_rfl) (by kernel_rfl) (by kernel_rfl) ?_)
        all_goals (first | refine sg_take 3 hcalm rfl (by kernel_rfl) (by kernel_rfl) (by kernel_rfl) ?_)
        all_goals (first | refine sg_take 4 hcalm rfl (by kernel_rfl) (by kernel_rfl) (by kernel_rfl) ?_)
        all_goals (first | refine sg_take 7 hcalm rfl (by kernel_rfl) (by kernel_rfl) (by kernel_rfl) ?_)
        all_goals (first | refine sg_take 8 hcalm rfl (by kernel_rfl) (by kernel_rfl) (by kernel_rfl) ?_)
        all_goals (first | refine sg_take 9 hcalm rfl (by kernel_rfl) (by kernel_rfl) (by kernel_rfl) ?_)
        all_goals (first | refine sg_take 10 hcalm rfl (by kernel_rfl) (by kernel_rfl) (by kernel_rfl) ?_)
        all_goals (first | refine sg_take 11 hcalm rfl (by kernel_rfl) (by kernel_rfl) (by kernel_rfl) ?_)
        all_goals (refine sg_one 5 rfl (by kernel_rfl) rfl ?_)
        all_goals (repeat' (first | with_reducible (first | refine sw_op ?_ | refine sw_op_ ?_) | ((with_reducible refine sw_call (l20sector_ok W _ _ ho.data) ?_); rintro _ _ ⟨q, rfl, rfl⟩) | ((with_reducible refine sw_call (dWrite_ok0 pd q _ _ _ 512 o.at' (padS o.data) hlk hwx (by simp) reads_row0 hf) ?_); rintro _ _ ⟨rfl, rfl⟩) | ((with_reducible refine sw_call (rWrite_ok0 pr q _ _ _ 512 o.at' (padS o.data) hlk hwx reads_row0 hf) ?_); rintro _ _ ⟨rfl, rfl⟩) | with_reducible refine sg_back ?_ | with_reducible (first | refine sw_nil ?_ | refine sq_then ?_ | refine sc_seq ?_ | refine sc_region ?_ | refine sw_guard_skip ?_ | refine sw_guard_skip_ ?_ | refine sw_guard_run ?_ | refine sc_cond_true ?_ | refine sc_cond_false ?_ | refine sc_ret ?_ | refine sq_then_ret ?_ | refine sc_skip ?_ | refine sc_block ?_ | refine sq_block ?_ | refine sq_block_ret ?_ | refine sc_exit ?_ | refine sq_then_exit ?_ | refine sq_block_exit ?_ | refine sq_block_past ?_ | refine sq_round_ret ?_ | refine sq_round_exit ?_) | fail))
        all_goals (refine sg_one 6 rfl (by kernel_rfl) rfl ?_)
        all_goals (repeat' (first | with_reducible (first | refine sw_op ?_ | refine sw_op_ ?_) | ((with_reducible refine sw_call (l20sector_ok W _ _ ho.data) ?_); rintro _ _ ⟨q, rfl, rfl⟩) | ((with_reducible refine sw_call (dWrite_ok0 pd q _ _ _ 512 o.at' (padS o.data) hlk hwx (by simp) reads_row0 hf) ?_); rintro _ _ ⟨rfl, rfl⟩) | ((with_reducible refine sw_call (rWrite_ok0 pr q _ _ _ 512 o.at' (padS o.data) hlk hwx reads_row0 hf) ?_); rintro _ _ ⟨rfl, rfl⟩) | with_reducible refine sg_back ?_ | with_reducible (first | refine sw_nil ?_ | refine sq_then ?_ | refine sc_seq ?_ | refine sc_region ?_ | refine sw_guard_skip ?_ | refine sw_guard_skip_ ?_ | refine sw_guard_run ?_ | refine sc_cond_true ?_ | refine sc_cond_false ?_ | refine sc_ret ?_ | refine sq_then_ret ?_ | refine sc_skip ?_ | refine sc_block ?_ | refine sq_block ?_ | refine sq_block_ret ?_ | refine sc_exit ?_ | refine sq_then_exit ?_ | refine sq_block_exit ?_ | refine sq_block_past ?_ | refine sq_round_ret ?_ | refine sq_round_exit ?_) | fail))
        all_goals (refine sg_one 12 rfl (by kernel_rfl) rfl ?_)
        all_goals (repeat' (first | with_reducible (first | refine sw_op ?_ | refine sw_op_ ?_) | ((with_reducible refine sw_call (l20sector_ok W _ _ ho.data) ?_); rintro _ _ ⟨q, rfl, rfl⟩) | ((with_reducible refine sw_call (dWrite_ok0 pd q _ _ _ 512 o.at' (padS o.data) hlk hwx (by simp) reads_row0 hf) ?_); rintro _ _ ⟨rfl, rfl⟩) | ((with_reducible refine sw_call (rWrite_ok0 pr q _ _ _ 512 o.at' (padS o.data) hlk hwx reads_row0 hf) ?_); rintro _ _ ⟨rfl, rfl⟩) | with_reducible refine sg_back ?_ | with_reducible (first | refine sw_nil ?_ | refine sq_then ?_ | refine sc_seq ?_ | refine sc_region ?_ | refine sw_guard_skip ?_ | refine sw_guard_skip_ ?_ | refine sw_guard_run ?_ | refine sc_cond_true ?_ | refine sc_cond_false ?_ | refine sc_ret ?_ | refine sq_then_ret ?_ | refine sc_skip ?_ | refine sc_block ?_ | refine sq_block ?_ | refine sq_block_ret ?_ | refine sc_exit ?_ | refine sq_then_exit ?_ | refine sq_block_exit ?_ | refine sq_block_past ?_ | refine sq_round_ret ?_ | refine sq_round_exit ?_) | fail))
        all_goals (refine sg_one 13 rfl (by kernel_rfl) rfl ?_)
        all_goals (repeat' (first | with_reducible (first | refine sw_op ?_ | refine sw_op_ ?_) | ((with_reducible refine sw_call (l20sector_ok W _ _ ho.data) ?_); rintro _ _ ⟨q, rfl, rfl⟩) | ((with_reducible refine sw_call (dWrite_ok0 pd q _ _ _ 512 o.at' (padS o.data) hlk hwx (by simp) reads_row0 hf) ?_); rintro _ _ ⟨rfl, rfl⟩) | ((with_reducible refine sw_call (rWrite_ok0 pr q _ _ _ 512 o.at' (padS o.data) hlk hwx reads_row0 hf) ?_); rintro _ _ ⟨rfl, rfl⟩) | with_reducible refine sg_back ?_ | with_reducible (first | refine sw_nil ?_ | refine sq_then ?_ | refine sc_seq ?_ | refine sc_region ?_ | refine sw_guard_skip ?_ | refine sw_guard_skip_ ?_ | refine sw_guard_run ?_ | refine sc_cond_true ?_ | refine sc_cond_false ?_ | refine sc_ret ?_ | refine sq_then_ret ?_ | refine sc_skip ?_ | refine sc_block ?_ | refine sq_block ?_ | refine sq_block_ret ?_ | refine sc_exit ?_ | refine sq_then_exit ?_ | refine sq_block_exit ?_ | refine sq_block_past ?_ | refine sq_round_ret ?_ | refine sq_round_exit ?_) | fail))
        all_goals (first | refine sg_take 14 hcalm rfl (by kernel_rfl) (by kernel_rfl) (by kernel_rfl) ?_)
        all_goals (first | refine sg_take 15 hcalm rfl (by kernel_rfl) (by kernel_rfl) (by kernel_rfl) ?_)
        all_goals (refine sg_done (by kernel_rfl) rfl ?_)
        -- the step's answer: s.wrote o.at' (padS o.data)
        repeat' (first | with_reducible (first | refine sw_op ?_ | refine sw_op_ ?_) | with_reducible (first | refine sw_nil ?_ | refine sq_then ?_ | refine sc_seq ?_ | refine sc_region ?_ | refine sw_guard_skip ?_ | refine sw_guard_skip_ ?_ | refine sw_guard_run ?_ | refine sc_cond_true ?_ | refine sc_cond_false ?_ | refine sc_ret ?_ | refine sq_then_ret ?_ | refine sc_skip ?_ | refine sc_block ?_ | refine sq_block ?_ | refine sq_block_ret ?_ | refine sc_exit ?_ | refine sq_then_exit ?_ | refine sq_block_exit ?_ | refine sq_block_past ?_ | refine sq_round_ret ?_ | refine sq_round_exit ?_) | fail)
        refine sq_ret1 Tryz.results9 ?_
        refine ⟨_, ⟨s.wrote o.at' (padS o.data), by simp, rfl⟩, ?_⟩
        repeat' (first | with_reducible exact Ent.refl _ | with_reducible refine Ent.take_eq ?_ ?_ | rfl | with_reducible refine Ent.trans (Ent.drop _ _) ?_)
    · refine sc_drawC (m := 16) ([(b7, pts b7 (.cells (op13v o).toArray 39 (0, 0)))]) (by repeat' (first | with_reducible exact calm_post | with_reducible refine Calm.then ?_ | with_reducible refine Calm.block ?_ | with_reducible refine Calm.round ?_ | with_reducible refine Calm.mark ?_)) (by kernel_rfl) rfl (fun hcalm => ?_)
      all_goals (first | refine sg_take 0 hcalm rfl (by kernel_rfl) (by kernel_rfl) (by kernel_rfl) ?_)
      all_goals (first | refine sg_take 1 hcalm rfl (by kernel_rfl) (by kernel_rfl) (by kernel_rfl) ?_)
      all_goals (first | refine sg_take 2 hcalm rfl (by kernel_rfl) (by kernel_rfl) (by kernel_rfl) ?_)
      all_goals (first | refine sg_take 3 hcalm rfl (by kernel_rfl) (by kernel_rfl) (by kernel_rfl) ?_)
      all_goals (first | refine sg_take 4 hcalm rfl (by kernel_rfl) (by kernel_rfl) (by kernel_rfl) ?_)
      all_goals (first | refine sg_take 7 hcalm rfl (by kernel_rfl) (by kernel_rfl) (by kernel_rfl) ?_)
      all_goals (first | refine sg_take 8 hcalm rfl (by kernel_rfl) (by kernel_rfl) (by kernel_rfl) ?_)
      all_goals (first | refine sg_take 9 hcalm rfl (by kernel_rfl) (by kernel_rfl) (by kernel_rfl) ?_)
      all_goals (first | refine sg_take 10 hcalm rfl (by kernel_rfl) (by kernel_rfl) (by kernel_rfl) ?_)
      all_goals (first | refine sg_take 11 hcalm rfl (by kernel_rfl) (by kernel_rfl) (by kernel_rfl) ?_)
      all_goals (refine sg_one 5 rfl (by kernel_rfl) rfl ?_)
      all_goals (repeat' (first | with_reducible (first | refine sw_op ?_ | refine sw_op_ ?_) | ((with_reducible refine sw_call (l20sector_ok W _ _ ho.data) ?_); rintro _ _ ⟨q, rfl, rfl⟩) | ((with_reducible refine sw_call (dWrite_bad pd q _ _ _ _ hlk) ?_); rintro _ _ ⟨rfl, rfl⟩) | ((with_reducible refine sw_call (rWrite_bad pr q _ _ _ _ hlk) ?_); rintro _ _ ⟨rfl, rfl⟩) | with_reducible refine sg_back ?_ | with_reducible (first | refine sw_nil ?_ | refine sq_then ?_ | refine sc_seq ?_ | refine sc_region ?_ | refine sw_guard_skip ?_ | refine sw_guard_skip_ ?_ | refine sw_guard_run ?_ | refine sc_cond_true ?_ | refine sc_cond_false ?_ | refine sc_ret ?_ | refine sq_then_ret ?_ | refine sc_skip ?_ | refine sc_block ?_ | refine sq_block ?_ | refine sq_block_ret ?_ | refine sc_exit ?_ | refine sq_then_exit ?_ | refine sq_block_exit ?_ | refine sq_block_past ?_ | refine sq_round_ret ?_ | refine sq_round_exit ?_) | fail))
      all_goals (refine sg_one 6 rfl (by kernel_rfl) rfl ?_)
      all_goals (repeat' (first | with_reducible (first | refine sw_op ?_ | refine sw_op_ ?_) | ((with_reducible refine sw_call (l20sector_ok W _ _ ho.data) ?_); rintro _ _ ⟨q, rfl, rfl⟩) | ((with_reducible refine sw_call (dWrite_bad pd q _ _ _ _ hlk) ?_); rintro _ _ ⟨rfl, rfl⟩) | ((with_reducible refine sw_call (rWrite_bad pr q _ _ _ _ hlk) ?_); rintro _ _ ⟨rfl, rfl⟩) | with_reducible refine sg_back ?_ | with_reducible (first | refine sw_nil ?_ | refine sq_then ?_ | refine sc_seq ?_ | refine sc_region ?_ | refine sw_guard_skip ?_ | refine sw_guard_skip_ ?_ | refine sw_guard_run ?_ | refine sc_cond_true ?_ | refine sc_cond_false ?_ | refine sc_ret ?_ | refine sq_then_ret ?_ | refine sc_skip ?_ | refine sc_block ?_ | refine sq_block ?_ | refine sq_block_ret ?_ | refine sc_exit ?_ | refine sq_then_exit ?_ | refine sq_block_exit ?_ | refine sq_block_past ?_ | refine sq_round_ret ?_ | refine sq_round_exit ?_) | fail))
      all_goals (refine sg_one 12 rfl (by kernel_rfl) rfl ?_)
      all_goals (repeat' (first | with_reducible (first | refine sw_op ?_ | refine sw_op_ ?_) | ((with_reducible refine sw_call (l20sector_ok W _ _ ho.data) ?_); rintro _ _ ⟨q, rfl, rfl⟩) | ((with_reducible refine sw_call (dWrite_bad pd q _ _ _ _ hlk) ?_); rintro _ _ ⟨rfl, rfl⟩) | ((with_reducible refine sw_call (rWrite_bad pr q _ _ _ _ hlk) ?_); rintro _ _ ⟨rfl, rfl⟩) | with_reducible refine sg_back ?_ | with_reducible (first | refine sw_nil ?_ | refine sq_then ?_ | refine sc_seq ?_ | refine sc_region ?_ | refine sw_guard_skip ?_ | refine sw_guard_skip_ ?_ | refine sw_guard_run ?_ | refine sc_cond_true ?_ | refine sc_cond_false ?_ | refine sc_ret ?_ | refine sq_then_ret ?_ | refine sc_skip ?_ | refine sc_block ?_ | refine sq_block ?_ | refine sq_block_ret ?_ | refine sc_exit ?_ | refine sq_then_exit ?_ | refine sq_block_exit ?_ | refine sq_block_past ?_ | refine sq_round_ret ?_ | refine sq_round_exit ?_) | fail))
      all_goals (refine sg_one 13 rfl (by kernel_rfl) rfl ?_)
      all_goals (repeat' (first | with_reducible (first | refine sw_op ?_ | refine sw_op_ ?_) | ((with_reducible refine sw_call (l20sector_ok W _ _ ho.data) ?_); rintro _ _ ⟨q, rfl, rfl⟩) | ((with_reducible refine sw_call (dWrite_bad pd q _ _ _ _ hlk) ?_); rintro _ _ ⟨rfl, rfl⟩) | ((with_reducible refine sw_call (rWrite_bad pr q _ _ _ _ hlk) ?_); rintro _ _ ⟨rfl, rfl⟩) | with_reducible refine sg_back ?_ | with_reducible (first | refine sw_nil ?_ | refine sq_then ?_ | refine sc_seq ?_ | refine sc_region ?_ | refine sw_guard_skip ?_ | refine sw_guard_skip_ ?_ | refine sw_guard_run ?_ | refine sc_cond_true ?_ | refine sc_cond_false ?_ | refine sc_ret ?_ | refine sq_then_ret ?_ | refine sc_skip ?_ | refine sc_block ?_ | refine sq_block ?_ | refine sq_block_ret ?_ | refine sc_exit ?_ | refine sq_then_exit ?_ | refine sq_block_exit ?_ | refine sq_block_past ?_ | refine sq_round_ret ?_ | refine sq_round_exit ?_) | fail))
      all_goals (first | refine sg_take 14 hcalm rfl (by kernel_rfl) (by kernel_rfl) (by kernel_rfl) ?_)
      all_goals (first | refine sg_take 15 hcalm rfl (by kernel_rfl) (by kernel_rfl) (by kernel_rfl) ?_)
      all_goals (refine sg_done (by kernel_rfl) rfl ?_)
      -- the step's answer: s
      repeat' (first | with_reducible (first | refine sw_op ?_ | refine sw_op_ ?_) | with_reducible (first | refine sw_nil ?_ | refine sq_then ?_ | refine sc_seq ?_ | refine sc_region ?_ | refine sw_guard_skip ?_ | refine sw_guard_skip_ ?_ | refine sw_guard_run ?_ | refine sc_cond_true ?_ | refine sc_cond_false ?_ | refine sc_ret ?_ | refine sq_then_ret ?_ | refine sc_skip ?_ | refine sc_block ?_ | refine sq_block ?_ | refine sq_block_ret ?_ | refine sc_exit ?_ | refine sq_then_exit ?_ | refine sq_block_exit ?_ | refine sq_block_past ?_ | refine sq_round_ret ?_ | refine sq_round_exit ?_) | fail)
      refine sq_ret1 Tryz.results9 ?_
      refine ⟨_, ⟨s, by simp, rfl⟩, ?_⟩
      repeat' (first | with_reducible exact Ent.refl _ | with_reducible refine Ent.take_eq ?_ ?_ | rfl | with_reducible refine Ent.trans (Ent.drop _ _) ?_)
  · -- the power goes
    have hkl : o.keep.length ≤ 9223372036854775807 := by omega
    by_cases hlk : s.looks 0 = 0
    · refine sc_drawC (m := 10) ([(b7, pts b7 (.cells (op13v o).toArray 39 (0, 0)))]) (by repeat' (first | with_reducible exact calm_post | with_reducible refine Calm.then ?_ | with_reducible refine Calm.block ?_ | with_reducible refine Calm.round ?_ | with_reducible refine Calm.mark ?_)) (by kernel_rfl) rfl (fun hcalm => ?_)
      all_goals (first | refine sg_take 0 hcalm rfl (by kernel_rfl) (by kernel_rfl) (by kernel_rfl) ?_)
      all_goals (first | refine sg_take 1 hcalm rfl (by kernel_rfl) (by kernel_rfl) (by kernel_rfl) ?_)
      all_goals (first | refine sg_take 2 hcalm rfl (by kernel_rfl) (by kernel_rfl) (by kernel_rfl) ?_)
      all_goals (first | refine sg_take 4 hcalm rfl (by kernel_rfl) (by kernel_rfl) (by kernel_rfl) ?_)
      all_goals (first | refine sg_take 5 hcalm rfl (by kernel_rfl) (by kernel_rfl) (by kernel_rfl) ?_)
      all_goals (first | refine sg_take 6 hcalm rfl (by kernel_rfl) (by kernel_rfl) (by kernel_rfl) ?_)
      all_goals (refine sg_one 3 rfl (by kernel_rfl) rfl ?_)
      all_goals (repeat' (first | with_reducible (first | refine sw_op ?_ | refine sw_op_ ?_) | ((with_reducible refine sw_call (dCrash_ok pd 0 s _ _ o.keep hkb hkl hlk) ?_); rintro _ _ ⟨ks, hks, rfl, rfl⟩) | ((with_reducible refine sw_call (rCrash_ok pr 0 s _ _ o.keep hkb hkl hlk) ?_); rintro _ _ ⟨ks2, hks2, rfl, rfl⟩; obtain rfl := KeysD.unique hks hks2) | with_reducible refine sg_back ?_ | with_reducible (first | refine sw_nil ?_ | refine sq_then ?_ | refine sc_seq ?_ | refine sc_region ?_ | refine sw_guard_skip ?_ | refine sw_guard_skip_ ?_ | refine sw_guard_run ?_ | refine sc_cond_true ?_ | refine sc_cond_false ?_ | refine sc_ret ?_ | refine sq_then_ret ?_ | refine sc_skip ?_ | refine sc_block ?_ | refine sq_block ?_ | refine sq_block_ret ?_ | refine sc_exit ?_ | refine sq_then_exit ?_ | refine sq_block_exit ?_ | refine sq_block_past ?_ | refine sq_round_ret ?_ | refine sq_round_exit ?_) | fail))
      all_goals (refine sg_one 7 rfl (by kernel_rfl) rfl ?_)
      all_goals (repeat' (first | with_reducible (first | refine sw_op ?_ | refine sw_op_ ?_) | ((with_reducible refine sw_call (dCrash_ok pd 0 s _ _ o.keep hkb hkl hlk) ?_); rintro _ _ ⟨ks, hks, rfl, rfl⟩) | ((with_reducible refine sw_call (rCrash_ok pr 0 s _ _ o.keep hkb hkl hlk) ?_); rintro _ _ ⟨ks2, hks2, rfl, rfl⟩; obtain rfl := KeysD.unique hks hks2) | with_reducible refine sg_back ?_ | with_reducible (first | refine sw_nil ?_ | refine sq_then ?_ | refine sc_seq ?_ | refine sc_region ?_ | refine sw_guard_skip ?_ | refine sw_guard_skip_ ?_ | refine sw_guard_run ?_ | refine sc_cond_true ?_ | refine sc_cond_false ?_ | refine sc_ret ?_ | refine sq_then_ret ?_ | refine sc_skip ?_ | refine sc_block ?_ | refine sq_block ?_ | refine sq_block_ret ?_ | refine sc_exit ?_ | refine sq_then_exit ?_ | refine sq_block_exit ?_ | refine sq_block_past ?_ | refine sq_round_ret ?_ | refine sq_round_exit ?_) | fail))
      all_goals (first | refine sg_take 8 hcalm rfl (by kernel_rfl) (by kernel_rfl) (by kernel_rfl) ?_)
      all_goals (first | refine sg_take 9 hcalm rfl (by kernel_rfl) (by kernel_rfl) (by kernel_rfl) ?_)
      all_goals (refine sg_done (by kernel_rfl) rfl ?_)
      -- the step's answer: s.gone ks o.keep
      repeat' (first | with_reducible (first | refine sw_op ?_ | refine sw_op_ ?_) | with_reducible (first | refine sw_nil ?_ | refine sq_then ?_ | refine sc_seq ?_ | refine sc_region ?_ | refine sw_guard_skip ?_ | refine sw_guard_skip_ ?_ | refine sw_guard_run ?_ | refine sc_cond_true ?_ | refine sc_cond_false ?_ | refine sc_ret ?_ | refine sq_then_ret ?_ | refine sc_skip ?_ | refine sc_block ?_ | refine sq_block ?_ | refine sq_block_ret ?_ | refine sc_exit ?_ | refine sq_then_exit ?_ | refine sq_block_exit ?_ | refine sq_block_past ?_ | refine sq_round_ret ?_ | refine sq_round_exit ?_) | fail)
      refine sq_ret1 Tryz.results9 ?_
      refine ⟨_, ⟨s.gone ks o.keep, by simp, rfl⟩, ?_⟩
      repeat' (first | with_reducible exact Ent.refl _ | with_reducible refine Ent.take_eq ?_ ?_ | rfl | with_reducible refine Ent.trans (Ent.drop _ _) ?_)
    · refine sc_drawC (m := 10) ([(b7, pts b7 (.cells (op13v o).toArray 39 (0, 0)))]) (by repeat' (first | with_reducible exact calm_post | with_reducible refine Calm.then ?_ | with_reducible refine Calm.block ?_ | with_reducible refine Calm.round ?_ | with_reducible refine Calm.mark ?_)) (by kernel_rfl) rfl (fun hcalm => ?_)
      all_goals (first | refine sg_take 0 hcalm rfl (by kernel_rfl) (by kernel_rfl) (by kernel_rfl) ?_)
      all_goals (first | refine sg_take 1 hcalm rfl (by kernel_rfl) (by kernel_rfl) (by kernel_rfl) ?_)
      all_goals (first | refine sg_take 2 hcalm rfl (by kernel_rfl) (by kernel_rfl) (by kernel_rfl) ?_)
      all_goals (first | refine sg_take 4 hcalm rfl (by kernel_rfl) (by kernel_rfl) (by kernel_rfl) ?_)
      all_goals (first | refine sg_take 5 hcalm rfl (by kernel_rfl) (by kernel_rfl) (by kernel_rfl) ?_)
      all_goals (first | refine sg_take 6 hcalm rfl (by kernel_rfl) (by kernel_rfl) (by kernel_rfl) ?_)
      all_goals (refine sg_one 3 rfl (by kernel_rfl) rfl ?_)
      all_goals (repeat' (first | with_reducible (first | refine sw_op ?_ | refine sw_op_ ?_) | ((with_reducible refine sw_call (dCrash_bad pd 0 s (ro W) _ hlk) ?_); rintro _ _ ⟨rfl, rfl⟩) | ((with_reducible refine sw_call (rCrash_bad pr 0 s (ro W) _ hlk) ?_); rintro _ _ ⟨rfl, rfl⟩) | with_reducible refine sg_back ?_ | with_reducible (first | refine sw_nil ?_ | refine sq_then ?_ | refine sc_seq ?_ | refine sc_region ?_ | refine sw_guard_skip ?_ | refine sw_guard_skip_ ?_ | refine sw_guard_run ?_ | refine sc_cond_true ?_ | refine sc_cond_false ?_ | refine sc_ret ?_ | refine sq_then_ret ?_ | refine sc_skip ?_ | refine sc_block ?_ | refine sq_block ?_ | refine sq_block_ret ?_ | refine sc_exit ?_ | refine sq_then_exit ?_ | refine sq_block_exit ?_ | refine sq_block_past ?_ | refine sq_round_ret ?_ | refine sq_round_exit ?_) | fail))
      all_goals (refine sg_one 7 rfl (by kernel_rfl) rfl ?_)
      all_goals (repeat' (first | with_reducible (first | refine sw_op ?_ | refine sw_op_ ?_) | ((with_reducible refine sw_call (dCrash_bad pd 0 s (ro W) _ hlk) ?_); rintro _ _ ⟨rfl, rfl⟩) | ((with_reducible refine sw_call (rCrash_bad pr 0 s (ro W) _ hlk) ?_); rintro _ _ ⟨rfl, rfl⟩) | with_reducible refine sg_back ?_ | with_reducible (first | refine sw_nil ?_ | refine sq_then ?_ | refine sc_seq ?_ | refine sc_region ?_ | refine sw_guard_skip ?_ | refine sw_guard_skip_ ?_ | refine sw_guard_run ?_ | refine sc_cond_true ?_ | refine sc_cond_false ?_ | refine sc_ret ?_ | refine sq_then_ret ?_ | refine sc_skip ?_ | refine sc_block ?_ | refine sq_block ?_ | refine sq_block_ret ?_ | refine sc_exit ?_ | refine sq_then_exit ?_ | refine sq_block_exit ?_ | refine sq_block_past ?_ | refine sq_round_ret ?_ | refine sq_round_exit ?_) | fail))
      all_goals (first | refine sg_take 8 hcalm rfl (by kernel_rfl) (by kernel_rfl) (by kernel_rfl) ?_)
      all_goals (first | refine sg_take 9 hcalm rfl (by kernel_rfl) (by kernel_rfl) (by kernel_rfl) ?_)
      all_goals (refine sg_done (by kernel_rfl) rfl ?_)
      -- the step's answer: s
      repeat' (first | with_reducible (first | refine sw_op ?_ | refine sw_op_ ?_) | with_reducible (first | refine sw_nil ?_ | refine sq_then ?_ | refine sc_seq ?_ | refine sc_region ?_ | refine sw_guard_skip ?_ | refine sw_guard_skip_ ?_ | refine sw_guard_run ?_ | refine sc_cond_true ?_ | refine sc_cond_false ?_ | refine sc_ret ?_ | refine sq_then_ret ?_ | refine sc_skip ?_ | refine sc_block ?_ | refine sq_block ?_ | refine sq_block_ret ?_ | refine sc_exit ?_ | refine sq_then_exit ?_ | refine sq_block_exit ?_ | refine sq_block_past ?_ | refine sq_round_ret ?_ | refine sq_round_exit ?_) | fail)
      refine sq_ret1 Tryz.results9 ?_
      refine ⟨_, ⟨s, by simp, rfl⟩, ?_⟩
      repeat' (first | with_reducible exact Ent.refl _ | with_reducible refine Ent.take_eq ?_ ?_ | rfl | with_reducible refine Ent.trans (Ent.drop _ _) ?_)
  · -- a fuse
    by_cases hn : o.n < 0
    · refine sc_drawC (m := 14) ([(b7, pts b7 (.cells (op13v o).toArray 39 (0, 0)))]) (by repeat' (first | with_reducible exact calm_post | with_reducible refine Calm.then ?_ | with_reducible refine Calm.block ?_ | with_reducible refine Calm.round ?_ | with_reducible refine Calm.mark ?_)) (by kernel_rfl) rfl (fun hcalm => ?_)
      all_goals (first | refine sg_take 0 hcalm rfl (by kernel_rfl) (by kernel_rfl) (by kernel_rfl) ?_)
      all_goals (first | refine sg_take 1 hcalm rfl (by kernel_rfl) (by kernel_rfl) (by kernel_rfl) ?_)
      all_goals (first | refine sg_take 2 hcalm rfl (by kernel_rfl) (by kernel_rfl) (by kernel_rfl) ?_)
      all_goals (first | refine sg_take 3 hcalm rfl (by kernel_rfl) (by kernel_rfl) (by kernel_rfl) ?_)
      all_goals (first | refine sg_take 4 hcalm rfl (by kernel_rfl) (by kernel_rfl) (by kernel_rfl) ?_)
      all_goals (first | refine sg_take 6 hcalm rfl (by kernel_rfl) (by kernel_rfl) (by kernel_rfl) ?_)
      all_goals (first | refine sg_take 7 hcalm rfl (by kernel_rfl) (by kernel_rfl) (by kernel_rfl) ?_)
      all_goals (first | refine sg_take 8 hcalm rfl (by kernel_rfl) (by kernel_rfl) (by kernel_rfl) ?_)
      all_goals (first | refine sg_take 9 hcalm rfl (by kernel_rfl) (by kernel_rfl) (by kernel_rfl) ?_)
      all_goals (first | refine sg_take 10 hcalm rfl (by kernel_rfl) (by kernel_rfl) (by kernel_rfl) ?_)
      all_goals (refine sg_one 5 rfl (by kernel_rfl) rfl ?_)
      all_goals (repeat' (first | with_reducible (first | refine sw_op ?_ | refine sw_op_ ?_) | ((with_reducible refine sw_call (dSetFuse_neg pd 0 s (ro W) _ _ hn) ?_); rintro _ _ ⟨rfl, rfl⟩) | ((with_reducible refine sw_call (rSetFuse_neg pr 0 s (ro W) _ _ hn) ?_); rintro _ _ ⟨rfl, rfl⟩) | with_reducible refine sg_back ?_ | with_reducible (first | refine sw_nil ?_ | refine sq_then ?_ | refine sc_seq ?_ | refine sc_region ?_ | refine sw_guard_skip ?_ | refine sw_guard_skip_ ?_ | refine sw_guard_run ?_ | refine sc_cond_true ?_ | refine sc_cond_false ?_ | refine sc_ret ?_ | refine sq_then_ret ?_ | refine sc_skip ?_ | refine sc_block ?_ | refine sq_block ?_ | refine sq_block_ret ?_ | refine sc_exit ?_ | refine sq_then_exit ?_ | refine sq_block_exit ?_ | refine sq_block_past ?_ | refine sq_round_ret ?_ | refine sq_round_exit ?_) | fail))
      all_goals (refine sg_one 11 rfl (by kernel_rfl) rfl ?_)
      all_goals (repeat' (first | with_reducible (first | refine sw_op ?_ | refine sw_op_ ?_) | ((with_reducible refine sw_call (dSetFuse_neg pd 0 s (ro W) _ _ hn) ?_); rintro _ _ ⟨rfl, rfl⟩) | ((with_reducible refine sw_call (rSetFuse_neg pr 0 s (ro W) _ _ hn) ?_); rintro _ _ ⟨rfl, rfl⟩) | with_reducible refine sg_back ?_ | with_reducible (first | refine sw_nil ?_ | refine sq_then ?_ | refine sc_seq ?_ | refine sc_region ?_ | refine sw_guard_skip ?_ | refine sw_guard_skip_ ?_ | refine sw_guard_run ?_ | refine sc_cond_true ?_ | refine sc_cond_false ?_ | refine sc_ret ?_ | refine sq_then_ret ?_ | refine sc_skip ?_ | refine sc_block ?_ | refine sq_block ?_ | refine sq_block_ret ?_ | refine sc_exit ?_ | refine sq_then_exit ?_ | refine sq_block_exit ?_ | refine sq_block_past ?_ | refine sq_round_ret ?_ | refine sq_round_exit ?_) | fail))
      all_goals (first | refine sg_take 12 hcalm rfl (by kernel_rfl) (by kernel_rfl) (by kernel_rfl) ?_)
      all_goals (first | refine sg_take 13 hcalm rfl (by kernel_rfl) (by kernel_rfl) (by kernel_rfl) ?_)
      all_goals (refine sg_done (by kernel_rfl) rfl ?_)
      -- the step's answer: s
      repeat' (first | with_reducible (first | refine sw_op ?_ | refine sw_op_ ?_) | with_reducible (first | refine sw_nil ?_ | refine sq_then ?_ | refine sc_seq ?_ | refine sc_region ?_ | refine sw_guard_skip ?_ | refine sw_guard_skip_ ?_ | refine sw_guard_run ?_ | refine sc_cond_true ?_ | refine sc_cond_false ?_ | refine sc_ret ?_ | refine sq_then_ret ?_ | refine sc_skip ?_ | refine sc_block ?_ | refine sq_block ?_ | refine sq_block_ret ?_ | refine sc_exit ?_ | refine sq_then_exit ?_ | refine sq_block_exit ?_ | refine sq_block_past ?_ | refine sq_round_ret ?_ | refine sq_round_exit ?_) | fail)
      refine sq_ret1 Tryz.results9 ?_
      refine ⟨_, ⟨s, by simp, rfl⟩, ?_⟩
      repeat' (first | with_reducible exact Ent.refl _ | with_reducible refine Ent.take_eq ?_ ?_ | rfl | with_reducible refine Ent.trans (Ent.drop _ _) ?_)
    · have hn0 : 0 ≤ o.n := by omega
      have hn2 := ho.n.2
      refine sc_drawC (m := 14) ([(b7, pts b7 (.cells (op13v o).toArray 39 (0, 0)))]) (by repeat' (first | with_reducible exact calm_post | with_reducible refine Calm.then ?_ | with_reducible refine Calm.block ?_ | with_reducible refine Calm.round ?_ | with_reducible refine Calm.mark ?_)) (by kernel_rfl) rfl (fun hcalm => ?_)
      all_goals (first | refine sg_take 0 hcalm rfl (by kernel_rfl) (by kernel_rfl) (by kernel_rfl) ?_)
      all_goals (first | refine sg_take 1 hcalm rfl (by kernel_rfl) (by kernel_rfl) (by kernel_rfl) ?_)
      all_goals (first | refine sg_take 2 hcalm rfl (by kernel_rfl) (by kernel_rfl) (by kernel_rfl) ?_)
      all_goals (first | refine sg_take 3 hcalm rfl (by kernel_rfl) (by kernel_rfl) (by kernel_rfl) ?_)
      all_goals (first | refine sg_take 4 hcalm rfl (by kernel_rfl) (by kernel_rfl) (by kernel_rfl) ?_)
      all_goals (first | refine sg_take 6 hcalm rfl (by kernel_rfl) (by kernel_rfl) (by kernel_rfl) ?_)
      all_goals (first | refine sg_take 7 hcalm rfl (by kernel_rfl) (by kernel_rfl) (by kernel_rfl) ?_)
      all_goals (first | refine sg_take 8 hcalm rfl (by kernel_rfl) (by kernel_rfl) (by kernel_rfl) ?_)
      all_goals (first | refine sg_take 9 hcalm rfl (by kernel_rfl) (by kernel_rfl) (by kernel_rfl) ?_)
      all_goals (first | refine sg_take 10 hcalm rfl (by kernel_rfl) (by kernel_rfl) (by kernel_rfl) ?_)
      all_goals (refine sg_one 5 rfl (by kernel_rfl) rfl ?_)
      all_goals (repeat' (first | with_reducible (first | refine sw_op ?_ | refine sw_op_ ?_) | ((with_reducible refine sw_call (dSetFuse_ok pd 0 s _ _ o.keep o.n hn0 hn2 hkb hz) ?_); rintro _ _ ⟨rfl, rfl⟩) | ((with_reducible refine sw_call (rSetFuse_ok pr 0 s _ _ o.keep o.n hn0 hn2 hkb hz) ?_); rintro _ _ ⟨rfl, rfl⟩) | with_reducible refine sg_back ?_ | with_reducible (first | refine sw_nil ?_ | refine sq_then ?_ | refine sc_seq ?_ | refine sc_region ?_ | refine sw_guard_skip ?_ | refine sw_guard_skip_ ?_ | refine sw_guard_run ?_ | refine sc_cond_true ?_ | refine sc_cond_false ?_ | refine sc_ret ?_ | refine sq_then_ret ?_ | refine sc_skip ?_ | refine sc_block ?_ | refine sq_block ?_ | refine sq_block_ret ?_ | refine sc_exit ?_ | refine sq_then_exit ?_ | refine sq_block_exit ?_ | refine sq_block_past ?_ | refine sq_round_ret ?_ | refine sq_round_exit ?_) | fail))
      all_goals (refine sg_one 11 rfl (by kernel_rfl) rfl ?_)
      all_goals (repeat' (first | with_reducible (first | refine sw_op ?_ | refine sw_op_ ?_) | ((with_reducible refine sw_call (dSetFuse_ok pd 0 s _ _ o.keep o.n hn0 hn2 hkb hz) ?_); rintro _ _ ⟨rfl, rfl⟩) | ((with_reducible refine sw_call (rSetFuse_ok pr 0 s _ _ o.keep o.n hn0 hn2 hkb hz) ?_); rintro _ _ ⟨rfl, rfl⟩) | with_reducible refine sg_back ?_ | with_reducible (first | refine sw_nil ?_ | refine sq_then ?_ | refine sc_seq ?_ | refine sc_region ?_ | refine sw_guard_skip ?_ | refine sw_guard_skip_ ?_ | refine sw_guard_run ?_ | refine sc_cond_true ?_ | refine sc_cond_false ?_ | refine sc_ret ?_ | refine sq_then_ret ?_ | refine sc_skip ?_ | refine sc_block ?_ | refine sq_block ?_ | refine sq_block_ret ?_ | refine sc_exit ?_ | refine sq_then_exit ?_ | refine sq_block_exit ?_ | refine sq_block_past ?_ | refine sq_round_ret ?_ | refine sq_round_exit ?_) | fail))
      all_goals (first | refine sg_take 12 hcalm rfl (by kernel_rfl) (by kernel_rfl) (by kernel_rfl) ?_)
      all_goals (first | refine sg_take 13 hcalm rfl (by kernel_rfl) (by kernel_rfl) (by kernel_rfl) ?_)
      all_goals (refine sg_done (by kernel_rfl) rfl ?_)
      -- the step's answer: s.fused o.n o.keep
      repeat' (first | with_reducible (first | refine sw_op ?_ | refine sw_op_ ?_) | with_reducible (first | refine sw_nil ?_ | refine sq_then ?_ | refine sc_seq ?_ | refine sc_region ?_ | refine sw_guard_skip ?_ | refine sw_guard_skip_ ?_ | refine sw_guard_run ?_ | refine sc_cond_true ?_ | refine sc_cond_false ?_ | refine sc_ret ?_ | refine sq_then_ret ?_ | refine sc_skip ?_ | refine sc_block ?_ | refine sq_block ?_ | refine sq_block_ret ?_ | refine sc_exit ?_ | refine sq_then_exit ?_ | refine sq_block_exit ?_ | refine sq_block_past ?_ | refine sq_round_ret ?_ | refine sq_round_exit ?_) | fail)
      refine sq_ret1 Tryz.results9 ?_
      refine ⟨_, ⟨s.fused o.n o.keep, by simp, rfl⟩, ?_⟩
      repeat' (first | with_reducible exact Ent.refl _ | with_reducible refine Ent.take_eq ?_ ?_ | rfl | with_reducible refine Ent.trans (Ent.drop _ _) ?_)
  · repeat' (first | with_reducible (first | refine sw_op ?_ | refine sw_op_ ?_) | ((with_reducible refine sw_call (dRestart_up pd _) ?_); rintro _ _ ⟨rfl, rfl⟩) | ((with_reducible refine sw_call (rRestart_ok pr _) ?_); rintro _ _ ⟨rfl, rfl⟩) | with_reducible (first | refine sw_nil ?_ | refine sq_then ?_ | refine sc_seq ?_ | refine sc_region ?_ | refine sw_guard_skip ?_ | refine sw_guard_skip_ ?_ | refine sw_guard_run ?_ | refine sc_cond_true ?_ | refine sc_cond_false ?_ | refine sc_ret ?_ | refine sq_then_ret ?_ | refine sc_skip ?_ | refine sc_block ?_ | refine sq_block ?_ | refine sq_block_ret ?_ | refine sc_exit ?_ | refine sq_then_exit ?_ | refine sq_block_exit ?_ | refine sq_block_past ?_ | refine sq_round_ret ?_ | refine sq_round_exit ?_) | fail)
    -- the step's answer: s.up
    repeat' (first | with_reducible (first | refine sw_op ?_ | refine sw_op_ ?_) | with_reducible (first | refine sw_nil ?_ | refine sq_then ?_ | refine sc_seq ?_ | refine sc_region ?_ | refine sw_guard_skip ?_ | refine sw_guard_skip_ ?_ | refine sw_guard_run ?_ | refine sc_cond_true ?_ | refine sc_cond_false ?_ | refine sc_ret ?_ | refine sq_then_ret ?_ | refine sc_skip ?_ | refine sc_block ?_ | refine sq_block ?_ | refine sq_block_ret ?_ | refine sc_exit ?_ | refine sq_then_exit ?_ | refine sq_block_exit ?_ | refine sq_block_past ?_ | refine sq_round_ret ?_ | refine sq_round_exit ?_) | fail)
    refine sq_ret1 Tryz.results9 ?_
    refine ⟨_, ⟨s.up, by simp, rfl⟩, ?_⟩
    repeat' (first | with_reducible exact Ent.refl _ | with_reducible refine Ent.take_eq ?_ ?_ | rfl | with_reducible refine Ent.trans (Ent.drop _ _) ?_)
  · -- what both read
    have hbr := fun x : Ms => (Ms.beq_iff x x).2 rfl
    refine sw_call (mRead_ok _ pd _ (dkf s) (rd_disk pd s) a (by omega)) ?_
    rintro _ _ ⟨rfl, rfl⟩
    repeat' (first | with_reducible (first | refine sw_op ?_ | refine sw_op_ ?_) | with_reducible (first | refine sw_nil ?_ | refine sq_then ?_ | refine sc_seq ?_ | refine sc_region ?_ | refine sw_guard_skip ?_ | refine sw_guard_skip_ ?_ | refine sw_guard_run ?_ | refine sc_cond_true ?_ | refine sc_cond_false ?_ | refine sc_ret ?_ | refine sq_then_ret ?_ | refine sc_skip ?_ | refine sc_block ?_ | refine sq_block ?_ | refine sq_block_ret ?_ | refine sc_exit ?_ | refine sq_then_exit ?_ | refine sq_block_exit ?_ | refine sq_block_past ?_ | refine sq_round_ret ?_ | refine sq_round_exit ?_) | fail)
    refine sw_alloc fun b9 => ?_
    refine sw_store_agg ?_
    repeat' (first | with_reducible (first | refine sw_op ?_ | refine sw_op_ ?_) | with_reducible (first | refine sw_nil ?_ | refine sq_then ?_ | refine sc_seq ?_ | refine sc_region ?_ | refine sw_guard_skip ?_ | refine sw_guard_skip_ ?_ | refine sw_guard_run ?_ | refine sc_cond_true ?_ | refine sc_cond_false ?_ | refine sc_ret ?_ | refine sq_then_ret ?_ | refine sc_skip ?_ | refine sc_block ?_ | refine sq_block ?_ | refine sq_block_ret ?_ | refine sc_exit ?_ | refine sq_then_exit ?_ | refine sq_block_exit ?_ | refine sq_block_past ?_ | refine sq_round_ret ?_ | refine sq_round_exit ?_) | fail)
    refine sw_call (q20Read_ok pr s a (by omega)) ?_
    rintro _ _ ⟨rfl, rfl⟩
    repeat' (first | with_reducible (first | refine sw_op ?_ | refine sw_op_ ?_) | with_reducible (first | refine sw_nil ?_ | refine sq_then ?_ | refine sc_seq ?_ | refine sc_region ?_ | refine sw_guard_skip ?_ | refine sw_guard_skip_ ?_ | refine sw_guard_run ?_ | refine sc_cond_true ?_ | refine sc_cond_false ?_ | refine sc_ret ?_ | refine sq_then_ret ?_ | refine sc_skip ?_ | refine sc_block ?_ | refine sq_block ?_ | refine sq_block_ret ?_ | refine sc_exit ?_ | refine sq_then_exit ?_ | refine sq_block_exit ?_ | refine sq_block_past ?_ | refine sq_round_ret ?_ | refine sq_round_exit ?_) | fail)
    refine sw_alloc fun b11 => ?_
    refine sw_store_agg ?_
    repeat' (first | with_reducible (first | refine sw_op ?_ | refine sw_op_ ?_) | with_reducible (first | refine sw_nil ?_ | refine sq_then ?_ | refine sc_seq ?_ | refine sc_region ?_ | refine sw_guard_skip ?_ | refine sw_guard_skip_ ?_ | refine sw_guard_run ?_ | refine sc_cond_true ?_ | refine sc_cond_false ?_ | refine sc_ret ?_ | refine sq_then_ret ?_ | refine sc_skip ?_ | refine sc_block ?_ | refine sq_block ?_ | refine sq_block_ret ?_ | refine sc_exit ?_ | refine sq_then_exit ?_ | refine sq_block_exit ?_ | refine sq_block_past ?_ | refine sq_round_ret ?_ | refine sq_round_exit ?_) | fail)
    refine sw_call (mBoth_ok _ pd _ (dkf s) (rd_disk pd s) a (by omega)) ?_
    rintro _ _ ⟨rfl, rfl⟩
    repeat' (first | with_reducible (first | refine sw_op ?_ | refine sw_op_ ?_) | with_reducible (first | refine sw_nil ?_ | refine sq_then ?_ | refine sc_seq ?_ | refine sc_region ?_ | refine sw_guard_skip ?_ | refine sw_guard_skip_ ?_ | refine sw_guard_run ?_ | refine sc_cond_true ?_ | refine sc_cond_false ?_ | refine sc_ret ?_ | refine sq_then_ret ?_ | refine sc_skip ?_ | refine sc_block ?_ | refine sq_block ?_ | refine sq_block_ret ?_ | refine sc_exit ?_ | refine sq_then_exit ?_ | refine sq_block_exit ?_ | refine sq_block_past ?_ | refine sq_round_ret ?_ | refine sq_round_exit ?_) | fail)
    refine sw_alloc fun b13 => ?_
    refine sw_alloc fun b14 => ?_
    refine sw_store_agg ?_
    refine sw_store_agg ?_
    repeat' (first | with_reducible (first | refine sw_op ?_ | refine sw_op_ ?_) | with_reducible (first | refine sw_nil ?_ | refine sq_then ?_ | refine sc_seq ?_ | refine sc_region ?_ | refine sw_guard_skip ?_ | refine sw_guard_skip_ ?_ | refine sw_guard_run ?_ | refine sc_cond_true ?_ | refine sc_cond_false ?_ | refine sc_ret ?_ | refine sq_then_ret ?_ | refine sc_skip ?_ | refine sc_block ?_ | refine sq_block ?_ | refine sq_block_ret ?_ | refine sc_exit ?_ | refine sq_then_exit ?_ | refine sq_block_exit ?_ | refine sq_block_past ?_ | refine sq_round_ret ?_ | refine sq_round_exit ?_) | fail)
    refine sw_call (q20Both_ok pr s a (by omega)) ?_
    rintro _ _ ⟨rfl, rfl⟩
    repeat' (first | with_reducible (first | refine sw_op ?_ | refine sw_op_ ?_) | with_reducible (first | refine sw_nil ?_ | refine sq_then ?_ | refine sc_seq ?_ | refine sc_region ?_ | refine sw_guard_skip ?_ | refine sw_guard_skip_ ?_ | refine sw_guard_run ?_ | refine sc_cond_true ?_ | refine sc_cond_false ?_ | refine sc_ret ?_ | refine sq_then_ret ?_ | refine sc_skip ?_ | refine sc_block ?_ | refine sq_block ?_ | refine sq_block_ret ?_ | refine sc_exit ?_ | refine sq_then_exit ?_ | refine sq_block_exit ?_ | refine sq_block_past ?_ | refine sq_round_ret ?_ | refine sq_round_exit ?_) | fail)
    refine sw_alloc fun b15 => ?_
    refine sw_alloc fun b16 => ?_
    refine sw_store_agg ?_
    refine sw_store_agg ?_
    generalize readM (one (dkf s) a 0) (one (dkf s) a 1) = q
    generalize one (dkf s) a 0 = x
    generalize one (dkf s) a 1 = y
    have hb1 := hbr q.1
    have hb2 : (x.1.beq x.1 && (y.1.beq y.1 && true)) = true := by rw [hbr, hbr]; rfl
    repeat' (first | with_reducible (first | refine sw_op ?_ | refine sw_op_ ?_) | with_reducible refine sw_guard_skip_u ?_ | with_reducible (first | refine sw_nil ?_ | refine sq_then ?_ | refine sc_seq ?_ | refine sc_region ?_ | refine sw_guard_skip ?_ | refine sw_guard_skip_ ?_ | refine sw_guard_run ?_ | refine sc_cond_true ?_ | refine sc_cond_false ?_ | refine sc_ret ?_ | refine sq_then_ret ?_ | refine sc_skip ?_ | refine sc_block ?_ | refine sq_block ?_ | refine sq_block_ret ?_ | refine sc_exit ?_ | refine sq_then_exit ?_ | refine sq_block_exit ?_ | refine sq_block_past ?_ | refine sq_round_ret ?_ | refine sq_round_exit ?_) | (with_reducible refine sw_guard_split (fun h => ?_) (fun h => ?_)) <;> (try (exfalso; first | contradiction | omega | exact h Iff.rfl)) | (with_reducible refine sc_cond (fun h => ?_) (fun h => ?_)) <;> (try (exfalso; first | contradiction | omega | exact h Iff.rfl)) | (with_reducible refine sw_pick (fun h => ?_) (fun h => ?_)) <;> (try (exfalso; first | contradiction | omega | exact h Iff.rfl)) | fail)
    all_goals
      refine sq_ret1 Tryz.results9 ?_
      refine ⟨_, ⟨s, by simp, rfl⟩, ?_⟩
      repeat' (first | with_reducible exact Ent.refl _ | with_reducible refine Ent.take_eq ?_ ?_ | rfl | with_reducible refine Ent.trans (Ent.drop _ _) ?_)
end Go.Gsl
