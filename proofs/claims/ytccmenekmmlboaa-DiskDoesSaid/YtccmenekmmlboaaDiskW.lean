/- DiskOwn. -/
import Derived.Test.YtccmenekmmlboaaDiskS
namespace Go.Gsl
set_option linter.unusedVariables false
open Go.Proofs Go.RowKit

section
variable {P : Program} {ops : List Oper} {Q : Cont} {n : Nat} {w0 : World} {rest : List Oper} {e : Env} {Rs F : List Res} {ty : TypeId}
/-- append(s, x...), s being nil and nothing coming -/
theorem sw_append_nil0 {d m : Nat} {t el : TypeId} {nb : Nat} {x y : Operand} {z : Value} {c' : Nat} {a : Option Addr} {pos : String} {after : Array Edge}
    [hx : Ev n e x (.slice none 0 0)] [hy : Ev n e y (.slice a m c')] [he : Elem P t el 1 nb z] (hm : m = 0)
    (k : SW P ops Q n w0 rest ((d, .slice none 0 0) :: e) Rs) :
    SW P ops Q n w0 ({ dst := some d, op := .call { callee := .builtin .append, args := [x, y].toArray, argTypes := [t, t].toArray }, type := ty, pos := pos, after := after, guard := none } :: rest) e Rs := by
  intro w hw
  subst hm
  obtain ⟨i0, hi, hz0, hz1, hz2⟩ := info_parts he.info
  have hf : ∀ ad : Addr, (Builtin.firstCells i0.size 0 (.slice (some ad) 0 c')).run P w = .ok #[] w := fun ad => run_firstCells_some w i0.size 0 ad 0 c' [] (by simp) (by simp)
  have hr : (Builtin.append_ #[t, t] ty #[.slice none 0 0, .slice a 0 c']).run P w = .ok (.slice none 0 0) w := by
    cases a with
    | none => simp [Builtin.append_, run_underlying he.und, sizeOf, typeInfo, hi, Builtin.lenOf, run_firstCells_none]
    | some ad => simp [Builtin.append_, run_underlying he.und, sizeOf, typeInfo, hi, Builtin.lenOf, hf]
  refine wpM_value rfl (run_call_append rfl w hr) ?_
  rw [actM_put]
  exact k w hw
end

theorem dNew_4 : Spec Try.prog 34 [.int .i64 4] [] [] fun F v Rs' => ∃ p, v = .tuple #[.pointer (some ⟨p, 0, none⟩), .int .i64 0] ∧ Rs' = (p, DISK p (Dk.new 4)) :: F := dNew_ok 4 (by omega) (by omega)

/-- what DiskOwn reads behind the crash -/
theorem own_law {x : Int} {xs : List Int} {bs : List Bool} {s : Dk} {ks : List Int} (hs : s = (((Dk.new 4).wrote x xs).fused 1 bs).met) (hx : 0 ≤ x ∧ x < 4) (hw : s.Wf) (hk : KeysD s.dirty ks) :
    (s.gone ks bs).up.now x = if bs[0]? = some true then xs else List.replicate 512 0 := by
  have hd : ∀ j, (s.dirty j).isSome = true ↔ j = x := fun j => by
    rw [hs]
    show ((if j = x then some xs else none : Option (List Int)).isSome = true) ↔ _
    split <;> simp_all
  have hks : ks = [x] := sorted_unique ks [x] hk.nodup (by simp) hk.le (by simp) fun i => by rw [hk.mem, hd]; simp
  subst hks
  have h1 := Dk.gone_hit (bs := bs) hw hk (n := 0) (i := x) rfl
  have h2 : s.dirty x = some xs := by
    rw [hs]
    show (if x = x then some xs else none) = some xs
    rw [if_pos rfl]
  have h3 : s.sure[x.toNat]? = some (List.replicate 512 0) := by
    rw [hs]
    show (List.replicate 4 (List.replicate 512 (0 : Int)))[x.toNat]? = _
    rw [List.getElem?_replicate, if_pos (by omega)]
  rw [Dk.now_sure rfl]
  show ((s.gone [x] bs).sure[x.toNat]?).getD [] = _
  rw [h1, h2, h3]
  split <;> rfl


set_option maxHeartbeats 2000000 in
set_option maxRecDepth 20000 in
theorem diskOwn_ok (W : World) (x a b : Int) (kv : Value) (bs : List Bool) (ha : 0 ≤ a ∧ a ≤ 255) (hb : 0 ≤ b ∧ b ≤ 255) (hk : RdW W kv (bs.map Value.bool)) (hlen : bs.length ≤ 140737488355328) :
    Spec Try.prog 9 [.int .i64 x, .int .u8 a, .int .u8 b, kv] [0] [ro W] fun F v Rs' => v = .bool true ∧ ∃ G, Rs' = (0, ro W) :: G := by
  have hkb := hk.bools
  obtain ⟨ka, kc, rfl, hkm, hkn, hkr⟩ := hk
  rw [List.length_map] at hkm hkn hkb ⊢
  refine spec_of Try.func9 rfl Try.ntmps9 rfl ?_
  intro w0 F
  repeat' (first | with_reducible refine sw_op ?_ | with_reducible refine sw_op_ ?_ | ((with_reducible refine sw_call dNew_4 ?_); rintro _ _ ⟨p, rfl, rfl⟩) | ((with_reducible refine sw_call l2begun_ok ?_); rintro _ _ ⟨rfl, rfl⟩) | ((with_reducible refine sw_call (l2sector_ok _ _ ha hb) ?_); rintro _ _ ⟨q, r, rfl, rfl⟩) | with_reducible refine sw_nil ?_ | with_reducible refine sq_then ?_ | with_reducible refine sc_seq ?_ | with_reducible refine sc_region ?_ | with_reducible refine sw_guard_skip ?_ | with_reducible refine sw_guard_skip_ ?_ | with_reducible refine sw_guard_run ?_ | with_reducible refine sc_cond_true ?_ | with_reducible refine sc_cond_false ?_ | with_reducible refine sc_ret ?_ | with_reducible refine sq_then_ret ?_ | with_reducible refine sc_skip ?_ | with_reducible refine sc_block ?_ | with_reducible refine sq_block ?_ | with_reducible refine sq_block_ret ?_ | with_reducible refine sc_exit ?_ | with_reducible refine sq_then_exit ?_ | with_reducible refine sq_block_exit ?_ | with_reducible refine sq_block_past ?_ | with_reducible refine sq_round_ret ?_ | with_reducible refine sq_round_exit ?_ | (with_reducible refine sc_cond (fun h => ?_) (fun h => ?_)) <;> (try (exfalso; first | contradiction | omega | exact h Iff.rfl)) | (with_reducible refine sw_guard_split (fun h => ?_) (fun h => ?_)) <;> (try (exfalso; first | contradiction | omega | exact h Iff.rfl)) | (with_reducible refine sw_pick (fun h => ?_) (fun h => ?_)) <;> (try (exfalso; first | contradiction | omega | exact h Iff.rfl)) | fail)
  have hwx := secOf_wf ha hb
  refine sw_call (dWrite_f0 p q (Dk.new 4) _ _ 512 x (secOf a b) hwx (by simp) reads_row (by show (0 : Int) ≠ 1; omega)) ?_
  rintro _ _ (⟨hbad, rfl, rfl⟩ | ⟨hok, rfl, rfl⟩)
  · obtain ⟨h20, hout⟩ := Dk.looks_bad rfl hbad
    have hout : x < 0 ∨ (4 : Int) ≤ x := hout
    rw [h20]
    repeat' (first | with_reducible refine sw_op ?_ | with_reducible refine sw_op_ ?_ | with_reducible refine sw_nil ?_ | with_reducible refine sq_then ?_ | with_reducible refine sc_seq ?_ | with_reducible refine sc_region ?_ | with_reducible refine sw_guard_skip ?_ | with_reducible refine sw_guard_skip_ ?_ | with_reducible refine sw_guard_run ?_ | with_reducible refine sc_cond_true ?_ | with_reducible refine sc_cond_false ?_ | with_reducible refine sc_ret ?_ | with_reducible refine sq_then_ret ?_ | with_reducible refine sc_skip ?_ | with_reducible refine sc_block ?_ | with_reducible refine sq_block ?_ | with_reducible refine sq_block_ret ?_ | with_reducible refine sc_exit ?_ | with_reducible refine sq_then_exit ?_ | with_reducible refine sq_block_exit ?_ | with_reducible refine sq_block_past ?_ | with_reducible refine sq_round_ret ?_ | with_reducible refine sq_round_exit ?_ | (with_reducible refine sc_cond (fun h => ?_) (fun h => ?_)) <;> (try (exfalso; first | contradiction | omega | exact h Iff.rfl)) | (with_reducible refine sw_guard_split (fun h => ?_) (fun h => ?_)) <;> (try (exfalso; first | contradiction | omega | exact h Iff.rfl)) | (with_reducible refine sw_pick (fun h => ?_) (fun h => ?_)) <;> (try (exfalso; first | contradiction | omega | exact h Iff.rfl)) | fail)
    all_goals
      refine sq_ret1 Try.results9 ?_
      refine ⟨_, ⟨?_, F, rfl⟩, by repeat' (first | with_reducible exact Ent.refl _ | with_reducible refine Ent.take_eq ?_ ?_ | rfl | with_reducible refine Ent.trans (Ent.drop _ _) ?_)⟩
      first | rfl | (congr 1; simp; omega)
  have hx01 : 0 ≤ x ∧ x < 4 := (Dk.looks_zero hok).2
  obtain ⟨hx0, hx1⟩ := hx01
  have hlk : (((Dk.new 4).wrote x (secOf a b)).fused 1 bs).looks x = 0 := hok
  clear hok
  repeat' (first | with_reducible refine sw_op ?_ | with_reducible refine sw_op_ ?_ | with_reducible refine sw_nil ?_ | with_reducible refine sq_then ?_ | with_reducible refine sc_seq ?_ | with_reducible refine sc_region ?_ | with_reducible refine sw_guard_skip ?_ | with_reducible refine sw_guard_skip_ ?_ | with_reducible refine sw_guard_run ?_ | with_reducible refine sc_cond_true ?_ | with_reducible refine sc_cond_false ?_ | with_reducible refine sc_ret ?_ | with_reducible refine sq_then_ret ?_ | with_reducible refine sc_skip ?_ | with_reducible refine sc_block ?_ | with_reducible refine sq_block ?_ | with_reducible refine sq_block_ret ?_ | with_reducible refine sc_exit ?_ | with_reducible refine sq_then_exit ?_ | with_reducible refine sq_block_exit ?_ | with_reducible refine sq_block_past ?_ | with_reducible refine sq_round_ret ?_ | with_reducible refine sq_round_exit ?_ | (with_reducible refine sc_cond (fun h => ?_) (fun h => ?_)) <;> (try (exfalso; first | contradiction | omega | exact h Iff.rfl)) | (with_reducible refine sw_guard_split (fun h => ?_) (fun h => ?_)) <;> (try (exfalso; first | contradiction | omega | exact h Iff.rfl)) | (with_reducible refine sw_pick (fun h => ?_) (fun h => ?_)) <;> (try (exfalso; first | contradiction | omega | exact h Iff.rfl)) | fail)
  -- a loop that fills a row with (secOf a b).map (Value.int .u8) ++ r: q the row, 57 its length, 11 the register of the row, of its length and of the index (58), what else stays [(0, .int .i64 x), (1, .int .u8 a), (2, .int .u8 b), (3, .slice ka bs.length kc), (9, .pointer (some ⟨p, 0, none⟩))], resources behind it (p, DISK p ((Dk.new 4).wrote x (secOf a b))) :: (0, ro W) :: F
  refine sc_loop (α := { y : Nat × List Value // y.1 ≤ 512 ∧ 512 ≤ y.2.length }) (fun y => [(0, .int .i64 x), (1, .int .u8 a), (2, .int .u8 b), (3, .slice ka bs.length kc), (9, .pointer (some ⟨p, 0, none⟩))] ++ [(11, .slice (some ⟨q, 0, none⟩) 512 512), (57, .int .i64 512), (58, .int .i64 y.1.1)])
    (fun y => (q, pts q (.cells y.1.2.toArray 5 (0, 0))) :: (p, DISK p ((Dk.new 4).wrote x (secOf a b))) :: (0, ro W) :: F)
    (fun y => 512 - y.1.1) ⟨(0, (secOf a b).map (Value.int .u8) ++ r), Nat.zero_le _, by rw [List.length_append, List.length_map, secOf_len]; omega⟩ ?_ ?_ ?_
  · repeat' (first | exact says_nil | refine says_cons rfl ?_ | refine says_cons (by simp) ?_)
  · repeat' (first | with_reducible exact Ent.refl _ | with_reducible refine Ent.take_eq ?_ ?_ | rfl | with_reducible refine Ent.trans (Ent.drop _ _) ?_)
  rintro ⟨⟨i, cs⟩, hi, hcs⟩ e0
  simp only at hi hcs
  simp only [List.cons_append, List.nil_append]
  repeat' (first | with_reducible refine sw_op ?_ | with_reducible refine sw_op_ ?_ | with_reducible refine sw_nil ?_ | with_reducible refine sq_then ?_ | with_reducible refine sc_seq ?_ | with_reducible refine sc_region ?_ | with_reducible refine sw_guard_skip ?_ | with_reducible refine sw_guard_skip_ ?_ | with_reducible refine sw_guard_run ?_ | with_reducible refine sc_cond_true ?_ | with_reducible refine sc_cond_false ?_ | with_reducible refine sc_ret ?_ | with_reducible refine sq_then_ret ?_ | with_reducible refine sc_skip ?_ | with_reducible refine sc_block ?_ | with_reducible refine sq_block ?_ | with_reducible refine sq_block_ret ?_ | with_reducible refine sc_exit ?_ | with_reducible refine sq_then_exit ?_ | with_reducible refine sq_block_exit ?_ | with_reducible refine sq_block_past ?_ | with_reducible refine sq_round_ret ?_ | with_reducible refine sq_round_exit ?_ | (with_reducible refine sc_cond (fun h => ?_) (fun h => ?_)) <;> (try (exfalso; first | contradiction | omega | exact h Iff.rfl)) | fail)
  focus
    have hlt : i < 512 := by omega
    repeat' (first | with_reducible refine sw_in (by omega) ?_ | with_reducible refine sw_op ?_ | with_reducible refine sw_op_ ?_ | with_reducible refine sw_idx i (by omega) ?_ | with_reducible refine sw_storeAt (by omega) ?_ | with_reducible refine sw_nil ?_ | with_reducible refine sq_then ?_ | with_reducible refine sc_seq ?_ | with_reducible refine sc_region ?_ | with_reducible refine sw_guard_skip ?_ | with_reducible refine sw_guard_skip_ ?_ | with_reducible refine sw_guard_run ?_ | with_reducible refine sc_cond_true ?_ | with_reducible refine sc_cond_false ?_ | with_reducible refine sc_ret ?_ | with_reducible refine sq_then_ret ?_ | with_reducible refine sc_skip ?_ | with_reducible refine sc_block ?_ | with_reducible refine sq_block ?_ | with_reducible refine sq_block_ret ?_ | with_reducible refine sc_exit ?_ | with_reducible refine sq_then_exit ?_ | with_reducible refine sq_block_exit ?_ | with_reducible refine sq_block_past ?_ | with_reducible refine sq_round_ret ?_ | with_reducible refine sq_round_exit ?_ | fail)
    refine sq_round ⟨(i + 1, cs.set i (.int .u8 9)), hlt, by rw [List.length_set]; exact hcs⟩ ?_ ?_ ?_
    · show 512 - (i + 1) < 512 - i
      omega
    · repeat' (first | exact says_nil | refine says_cons rfl ?_ | refine says_cons (by simp) ?_)
    · repeat' (first | with_reducible exact Ent.refl _ | with_reducible refine Ent.take_eq ?_ ?_ | rfl | with_reducible refine Ent.trans (Ent.drop _ _) ?_)
  generalize hs1 : (Dk.new 4).wrote x (secOf a b) = s1 at hlk
  rcases Nat.eq_zero_or_pos bs.length with hz | hz
  focus
    have hb0 : bs = [] := List.eq_nil_of_length_eq_zero hz
    refine sw_append_nil0 hz ?_
    repeat' (first | with_reducible refine sw_op ?_ | with_reducible refine sw_op_ ?_ | with_reducible refine sw_nil ?_ | with_reducible refine sq_then ?_ | with_reducible refine sc_seq ?_ | with_reducible refine sc_region ?_ | with_reducible refine sw_guard_skip ?_ | with_reducible refine sw_guard_skip_ ?_ | with_reducible refine sw_guard_run ?_ | with_reducible refine sc_cond_true ?_ | with_reducible refine sc_cond_false ?_ | with_reducible refine sc_ret ?_ | with_reducible refine sq_then_ret ?_ | with_reducible refine sc_skip ?_ | with_reducible refine sc_block ?_ | with_reducible refine sq_block ?_ | with_reducible refine sq_block_ret ?_ | with_reducible refine sc_exit ?_ | with_reducible refine sq_then_exit ?_ | with_reducible refine sq_block_exit ?_ | with_reducible refine sq_block_past ?_ | with_reducible refine sq_round_ret ?_ | with_reducible refine sq_round_exit ?_ | fail)
    refine sw_call (dSetFuse_ok p 0 s1 (ro W) _ bs 1 (by omega) (by omega) (by rw [hb0]; exact rdBools_nil _) hlen) ?_
    rintro _ _ ⟨rfl, rfl⟩
    repeat' (first | with_reducible refine sw_op ?_ | with_reducible refine sw_op_ ?_ | with_reducible refine sw_nil ?_ | with_reducible refine sq_then ?_ | with_reducible refine sc_seq ?_ | with_reducible refine sc_region ?_ | with_reducible refine sw_guard_skip ?_ | with_reducible refine sw_guard_skip_ ?_ | with_reducible refine sw_guard_run ?_ | with_reducible refine sc_cond_true ?_ | with_reducible refine sc_cond_false ?_ | with_reducible refine sc_ret ?_ | with_reducible refine sq_then_ret ?_ | with_reducible refine sc_skip ?_ | with_reducible refine sc_block ?_ | with_reducible refine sq_block ?_ | with_reducible refine sq_block_ret ?_ | with_reducible refine sc_exit ?_ | with_reducible refine sq_then_exit ?_ | with_reducible refine sq_block_exit ?_ | with_reducible refine sq_block_past ?_ | with_reducible refine sq_round_ret ?_ | with_reducible refine sq_round_exit ?_ | fail)
    refine sc_loop (α := Unit) (fun _ => [(0, .int .i64 x), (1, .int .u8 a), (2, .int .u8 b), (3, .slice ka bs.length kc), (9, .pointer (some ⟨p, 0, none⟩)), (71, .int .i64 0), (72, .int .i64 0)])
      (fun _ => (p, DISK p (s1.fused 1 bs)) :: (0, ro W) :: F) (fun _ => 0) () ?_ ?_ ?_
    · repeat' (first | exact says_nil | refine says_cons rfl ?_ | refine says_cons (by simp) ?_)
    · repeat' (first | with_reducible exact Ent.refl _ | with_reducible refine Ent.take_eq ?_ ?_ | rfl | with_reducible refine Ent.trans (Ent.drop _ _) ?_)
    rintro ⟨⟩ e1
    simp only [List.cons_append, List.nil_append]
    repeat' (first | with_reducible refine sw_op ?_ | with_reducible refine sw_op_ ?_ | with_reducible refine sw_nil ?_ | with_reducible refine sq_then ?_ | with_reducible refine sc_seq ?_ | with_reducible refine sc_region ?_ | with_reducible refine sw_guard_skip ?_ | with_reducible refine sw_guard_skip_ ?_ | with_reducible refine sw_guard_run ?_ | with_reducible refine sc_cond_true ?_ | with_reducible refine sc_cond_false ?_ | with_reducible refine sc_ret ?_ | with_reducible refine sq_then_ret ?_ | with_reducible refine sc_skip ?_ | with_reducible refine sc_block ?_ | with_reducible refine sq_block ?_ | with_reducible refine sq_block_ret ?_ | with_reducible refine sc_exit ?_ | with_reducible refine sq_then_exit ?_ | with_reducible refine sq_block_exit ?_ | with_reducible refine sq_block_past ?_ | with_reducible refine sq_round_ret ?_ | with_reducible refine sq_round_exit ?_ | (with_reducible refine sc_cond (fun h => ?_) (fun h => ?_)) <;> (try (exfalso; first | contradiction | omega | exact h Iff.rfl)) | fail)
    clear hb0
  rotate_left
  focus
    obtain ⟨ab, ao, rfl⟩ := hkn hz
    have hrd : Reads (ro W) (some ⟨ab, ao, none⟩) (bs.map Value.bool) := reads_ro hkr
    refine sw_append_nil (src := bs.map Value.bool) (fun w hw => hrd.sat (k := 0) hw) ⟨hz, by rw [List.length_map], by omega, by omega⟩ fun bm rm => ?_
    repeat' (first | with_reducible refine sw_op ?_ | with_reducible refine sw_op_ ?_ | with_reducible refine sw_nil ?_ | with_reducible refine sq_then ?_ | with_reducible refine sc_seq ?_ | with_reducible refine sc_region ?_ | with_reducible refine sw_guard_skip ?_ | with_reducible refine sw_guard_skip_ ?_ | with_reducible refine sw_guard_run ?_ | with_reducible refine sc_cond_true ?_ | with_reducible refine sc_cond_false ?_ | with_reducible refine sc_ret ?_ | with_reducible refine sq_then_ret ?_ | with_reducible refine sc_skip ?_ | with_reducible refine sc_block ?_ | with_reducible refine sq_block ?_ | with_reducible refine sq_block_ret ?_ | with_reducible refine sc_exit ?_ | with_reducible refine sq_then_exit ?_ | with_reducible refine sq_block_exit ?_ | with_reducible refine sq_block_past ?_ | with_reducible refine sq_round_ret ?_ | with_reducible refine sq_round_exit ?_ | fail)
    refine sw_call (dSetFuse_ok p bm s1 _ _ bs 1 (by omega) (by omega) ⟨_, _, rfl, fun _ => ⟨_, _, rfl⟩, reads_row⟩ hlen) ?_
    rintro _ _ ⟨rfl, rfl⟩
    repeat' (first | with_reducible refine sw_op ?_ | with_reducible refine sw_op_ ?_ | with_reducible refine sw_nil ?_ | with_reducible refine sq_then ?_ | with_reducible refine sc_seq ?_ | with_reducible refine sc_region ?_ | with_reducible refine sw_guard_skip ?_ | with_reducible refine sw_guard_skip_ ?_ | with_reducible refine sw_guard_run ?_ | with_reducible refine sc_cond_true ?_ | with_reducible refine sc_cond_false ?_ | with_reducible refine sc_ret ?_ | with_reducible refine sq_then_ret ?_ | with_reducible refine sc_skip ?_ | with_reducible refine sc_block ?_ | with_reducible refine sq_block ?_ | with_reducible refine sq_block_ret ?_ | with_reducible refine sc_exit ?_ | with_reducible refine sq_then_exit ?_ | with_reducible refine sq_block_exit ?_ | with_reducible refine sq_block_past ?_ | with_reducible refine sq_round_ret ?_ | with_reducible refine sq_round_exit ?_ | fail)
    refine sc_loop (α := { y : Nat × List Bool // y.1 ≤ bs.length ∧ y.2.length = bs.length }) (fun y => [(0, .int .i64 x), (1, .int .u8 a), (2, .int .u8 b), (3, .slice (some ⟨ab, ao, none⟩) bs.length kc), (9, .pointer (some ⟨p, 0, none⟩)), (14, .slice (some ⟨bm, 0, none⟩) bs.length (bs.length + rm.length)), (71, .int .i64 bs.length), (72, .int .i64 y.1.1)])
      (fun y => (bm, pts bm (.cells (y.1.2.map Value.bool ++ rm).toArray 4 (0, 0))) :: (p, DISK p (s1.fused 1 bs)) :: (0, ro W) :: F) (fun y => bs.length - y.1.1) ⟨(0, bs), Nat.zero_le _, rfl⟩ ?_ ?_ ?_
    · repeat' (first | exact says_nil | refine says_cons rfl ?_ | refine says_cons (by simp) ?_)
    · repeat' (first | with_reducible exact Ent.refl _ | with_reducible refine Ent.take_eq ?_ ?_ | rfl | with_reducible refine Ent.trans (Ent.drop _ _) ?_)
    rintro ⟨⟨j, l⟩, hj, hl⟩ e1
    simp only at hj hl
    simp only [List.cons_append, List.nil_append]
    repeat' (first | with_reducible refine sw_op ?_ | with_reducible refine sw_op_ ?_ | with_reducible refine sw_nil ?_ | with_reducible refine sq_then ?_ | with_reducible refine sc_seq ?_ | with_reducible refine sc_region ?_ | with_reducible refine sw_guard_skip ?_ | with_reducible refine sw_guard_skip_ ?_ | with_reducible refine sw_guard_run ?_ | with_reducible refine sc_cond_true ?_ | with_reducible refine sc_cond_false ?_ | with_reducible refine sc_ret ?_ | with_reducible refine sq_then_ret ?_ | with_reducible refine sc_skip ?_ | with_reducible refine sc_block ?_ | with_reducible refine sq_block ?_ | with_reducible refine sq_block_ret ?_ | with_reducible refine sc_exit ?_ | with_reducible refine sq_then_exit ?_ | with_reducible refine sq_block_exit ?_ | with_reducible refine sq_block_past ?_ | with_reducible refine sq_round_ret ?_ | with_reducible refine sq_round_exit ?_ | (with_reducible refine sc_cond (fun h => ?_) (fun h => ?_)) <;> (try (exfalso; first | contradiction | omega | exact h Iff.rfl)) | fail)
    focus
      have hlt : j < l.length := by omega
      refine sw_idx j (by omega) ?_
      refine sw_loadAt (.bool l[j]) (by rw [List.getElem?_append_left (by rw [List.length_map]; exact hlt), List.getElem?_map, List.getElem?_eq_getElem hlt]; rfl) ?_
      repeat' (first | with_reducible refine sw_op ?_ | with_reducible refine sw_op_ ?_ | with_reducible refine sw_nil ?_ | with_reducible refine sq_then ?_ | with_reducible refine sc_seq ?_ | with_reducible refine sc_region ?_ | with_reducible refine sw_guard_skip ?_ | with_reducible refine sw_guard_skip_ ?_ | with_reducible refine sw_guard_run ?_ | with_reducible refine sc_cond_true ?_ | with_reducible refine sc_cond_false ?_ | with_reducible refine sc_ret ?_ | with_reducible refine sq_then_ret ?_ | with_reducible refine sc_skip ?_ | with_reducible refine sc_block ?_ | with_reducible refine sq_block ?_ | with_reducible refine sq_block_ret ?_ | with_reducible refine sc_exit ?_ | with_reducible refine sq_then_exit ?_ | with_reducible refine sq_block_exit ?_ | with_reducible refine sq_block_past ?_ | with_reducible refine sq_round_ret ?_ | with_reducible refine sq_round_exit ?_ | fail)
      refine sw_idx j (by omega) ?_
      refine sw_storeAt (by rw [List.length_append, List.length_map]; omega) ?_
      repeat' (first | with_reducible refine sw_in (by omega) ?_ | with_reducible refine sw_op ?_ | with_reducible refine sw_op_ ?_ | with_reducible refine sw_nil ?_ | with_reducible refine sq_then ?_ | with_reducible refine sc_seq ?_ | with_reducible refine sc_region ?_ | with_reducible refine sw_guard_skip ?_ | with_reducible refine sw_guard_skip_ ?_ | with_reducible refine sw_guard_run ?_ | with_reducible refine sc_cond_true ?_ | with_reducible refine sc_cond_false ?_ | with_reducible refine sc_ret ?_ | with_reducible refine sq_then_ret ?_ | with_reducible refine sc_skip ?_ | with_reducible refine sc_block ?_ | with_reducible refine sq_block ?_ | with_reducible refine sq_block_ret ?_ | with_reducible refine sc_exit ?_ | with_reducible refine sq_then_exit ?_ | with_reducible refine sq_block_exit ?_ | with_reducible refine sq_block_past ?_ | with_reducible refine sq_round_ret ?_ | with_reducible refine sq_round_exit ?_ | fail)
      have e3 : (l.map Value.bool ++ rm).set j (.bool (!l[j])) = (l.set j (!l[j])).map Value.bool ++ rm := by
        rw [List.set_append_left _ _ (by rw [List.length_map]; exact hlt), List.map_set]
      rw [e3]
      refine sq_round ⟨(j + 1, l.set j (!l[j])), by show j + 1 ≤ bs.length; omega, by rw [List.length_set]; exact hl⟩ ?_ ?_ ?_
      · show bs.length - (j + 1) < bs.length - j
        omega
      · repeat' (first | exact says_nil | refine says_cons rfl ?_ | refine says_cons (by simp) ?_)
      · repeat' (first | with_reducible exact Ent.refl _ | with_reducible refine Ent.take_eq ?_ ?_ | rfl | with_reducible refine Ent.trans (Ent.drop _ _) ?_)
    generalize (some (⟨ab, ao, none⟩ : Addr)) = ka at hkb hkn hkr hrd
  all_goals
    with_reducible refine DISK.scwf' (p := p) (s := s1.fused 1 bs) fun hws => ?_
    with_reducible refine sw_call (dRead_ok p _ x hlk) ?_
    rintro _ _ ⟨bx, rfl, rfl⟩
    repeat' (first | with_reducible refine sw_op ?_ | with_reducible refine sw_op_ ?_ | with_reducible refine sw_nil ?_ | with_reducible refine sq_then ?_ | with_reducible refine sc_seq ?_ | with_reducible refine sc_region ?_ | with_reducible refine sw_guard_skip ?_ | with_reducible refine sw_guard_skip_ ?_ | with_reducible refine sw_guard_run ?_ | with_reducible refine sc_cond_true ?_ | with_reducible refine sc_cond_false ?_ | with_reducible refine sc_ret ?_ | with_reducible refine sq_then_ret ?_ | with_reducible refine sc_skip ?_ | with_reducible refine sc_block ?_ | with_reducible refine sq_block ?_ | with_reducible refine sq_block_ret ?_ | with_reducible refine sc_exit ?_ | with_reducible refine sq_then_exit ?_ | with_reducible refine sq_block_exit ?_ | with_reducible refine sq_block_past ?_ | with_reducible refine sq_round_ret ?_ | with_reducible refine sq_round_exit ?_ | fail)
    have hnow : (s1.fused 1 bs).now x = secOf a b := by
      rw [← hs1]
      show ((if x = x then some (secOf a b) else none : Option (List Int))).getD _ = _
      rw [if_pos rfl]; rfl
    rw [hnow]
  all_goals
    -- a loop that fills a row with (secOf a b).map (Value.int .u8): bx the row, 91 its length, 16 the register of the row, of its length and of the index (92), what else stays [(0, .int .i64 x), (1, .int .u8 a), (2, .int .u8 b), (3, .slice ka bs.length kc), (9, .pointer (some ⟨p, 0, none⟩))], resources behind it (p, DISK p (s1.fused 1 bs)) :: (0, ro W) :: F
    refine sc_loop (α := { y : Nat × List Value // y.1 ≤ 512 ∧ 512 ≤ y.2.length }) (fun y => [(0, .int .i64 x), (1, .int .u8 a), (2, .int .u8 b), (3, .slice ka bs.length kc), (9, .pointer (some ⟨p, 0, none⟩))] ++ [(16, .slice (some ⟨bx, 0, none⟩) 512 512), (91, .int .i64 512), (92, .int .i64 y.1.1)])
      (fun y => (bx, pts bx (.cells y.1.2.toArray 5 (0, 0))) :: (p, DISK p (s1.fused 1 bs)) :: (0, ro W) :: F)
      (fun y => 512 - y.1.1) ⟨(0, (secOf a b).map (Value.int .u8)), Nat.zero_le _, by rw [List.length_map, secOf_len]; omega⟩ ?_ ?_ ?_
    · repeat' (first | exact says_nil | refine says_cons rfl ?_ | refine says_cons (by simp) ?_)
    · repeat' (first | with_reducible exact Ent.refl _ | with_reducible refine Ent.take_eq ?_ ?_ | rfl | with_reducible refine Ent.trans (Ent.drop _ _) ?_)
    rintro ⟨⟨i, cs⟩, hi, hcs⟩ e0
    simp only at hi hcs
    simp only [List.cons_append, List.nil_append]
    repeat' (first | with_reducible refine sw_op ?_ | with_reducible refine sw_op_ ?_ | with_reducible refine sw_nil ?_ | with_reducible refine sq_then ?_ | with_reducible refine sc_seq ?_ | with_reducible refine sc_region ?_ | with_reducible refine sw_guard_skip ?_ | with_reducible refine sw_guard_skip_ ?_ | with_reducible refine sw_guard_run ?_ | with_reducible refine sc_cond_true ?_ | with_reducible refine sc_cond_false ?_ | with_reducible refine sc_ret ?_ | with_reducible refine sq_then_ret ?_ | with_reducible refine sc_skip ?_ | with_reducible refine sc_block ?_ | with_reducible refine sq_block ?_ | with_reducible refine sq_block_ret ?_ | with_reducible refine sc_exit ?_ | with_reducible refine sq_then_exit ?_ | with_reducible refine sq_block_exit ?_ | with_reducible refine sq_block_past ?_ | with_reducible refine sq_round_ret ?_ | with_reducible refine sq_round_exit ?_ | (with_reducible refine sc_cond (fun h => ?_) (fun h => ?_)) <;> (try (exfalso; first | contradiction | omega | exact h Iff.rfl)) | fail)
    focus
      have hlt : i < 512 := by omega
      repeat' (first | with_reducible refine sw_in (by omega) ?_ | with_reducible refine sw_op ?_ | with_reducible refine sw_op_ ?_ | with_reducible refine sw_idx i (by omega) ?_ | with_reducible refine sw_storeAt (by omega) ?_ | with_reducible refine sw_nil ?_ | with_reducible refine sq_then ?_ | with_reducible refine sc_seq ?_ | with_reducible refine sc_region ?_ | with_reducible refine sw_guard_skip ?_ | with_reducible refine sw_guard_skip_ ?_ | with_reducible refine sw_guard_run ?_ | with_reducible refine sc_cond_true ?_ | with_reducible refine sc_cond_false ?_ | with_reducible refine sc_ret ?_ | with_reducible refine sq_then_ret ?_ | with_reducible refine sc_skip ?_ | with_reducible refine sc_block ?_ | with_reducible refine sq_block ?_ | with_reducible refine sq_block_ret ?_ | with_reducible refine sc_exit ?_ | with_reducible refine sq_then_exit ?_ | with_reducible refine sq_block_exit ?_ | with_reducible refine sq_block_past ?_ | with_reducible refine sq_round_ret ?_ | with_reducible refine sq_round_exit ?_ | fail)
      refine sq_round ⟨(i + 1, cs.set i (.int .u8 7)), hlt, by rw [List.length_set]; exact hcs⟩ ?_ ?_ ?_
      · show 512 - (i + 1) < 512 - i
        omega
      · repeat' (first | exact says_nil | refine says_cons rfl ?_ | refine says_cons (by simp) ?_)
      · repeat' (first | with_reducible exact Ent.refl _ | with_reducible refine Ent.take_eq ?_ ?_ | rfl | with_reducible refine Ent.trans (Ent.drop _ _) ?_)
    with_reducible refine sw_call (dRead_ok p _ x hlk) ?_
    rintro _ _ ⟨by', rfl, rfl⟩
    rw [hnow]
    repeat' (first | with_reducible refine sw_op ?_ | with_reducible refine sw_op_ ?_ | ((with_reducible refine sw_call (l2sector_ok _ _ ha hb) ?_); rintro _ _ ⟨q2, r2, rfl, rfl⟩) | with_reducible refine sw_nil ?_ | with_reducible refine sq_then ?_ | with_reducible refine sc_seq ?_ | with_reducible refine sc_region ?_ | with_reducible refine sw_guard_skip ?_ | with_reducible refine sw_guard_skip_ ?_ | with_reducible refine sw_guard_run ?_ | with_reducible refine sc_cond_true ?_ | with_reducible refine sc_cond_false ?_ | with_reducible refine sc_ret ?_ | with_reducible refine sq_then_ret ?_ | with_reducible refine sc_skip ?_ | with_reducible refine sc_block ?_ | with_reducible refine sq_block ?_ | with_reducible refine sq_block_ret ?_ | with_reducible refine sc_exit ?_ | with_reducible refine sq_then_exit ?_ | with_reducible refine sq_block_exit ?_ | with_reducible refine sq_block_past ?_ | with_reducible refine sq_round_ret ?_ | with_reducible refine sq_round_exit ?_ | fail)
    with_reducible refine sw_call (bEqual_same by' q2 _ _ _ _ 512 512 512 512 (secOf a b) reads_row0 reads_row hwx.len hwx.len hwx.byte) ?_
    rintro _ _ ⟨rfl, rfl⟩
    repeat' (first | with_reducible refine sw_op ?_ | with_reducible refine sw_op_ ?_ | with_reducible refine sw_nil ?_ | with_reducible refine sq_then ?_ | with_reducible refine sc_seq ?_ | with_reducible refine sc_region ?_ | with_reducible refine sw_guard_skip ?_ | with_reducible refine sw_guard_skip_ ?_ | with_reducible refine sw_guard_run ?_ | with_reducible refine sc_cond_true ?_ | with_reducible refine sc_cond_false ?_ | with_reducible refine sc_ret ?_ | with_reducible refine sq_then_ret ?_ | with_reducible refine sc_skip ?_ | with_reducible refine sc_block ?_ | with_reducible refine sq_block ?_ | with_reducible refine sq_block_ret ?_ | with_reducible refine sc_exit ?_ | with_reducible refine sq_then_exit ?_ | with_reducible refine sq_block_exit ?_ | with_reducible refine sq_block_past ?_ | with_reducible refine sq_round_ret ?_ | with_reducible refine sq_round_exit ?_ | (with_reducible refine sc_cond (fun h => ?_) (fun h => ?_)) <;> (try (exfalso; first | contradiction | omega | exact h Iff.rfl)) | (with_reducible refine sw_guard_split (fun h => ?_) (fun h => ?_)) <;> (try (exfalso; first | contradiction | omega | exact h Iff.rfl)) | (with_reducible refine sw_pick (fun h => ?_) (fun h => ?_)) <;> (try (exfalso; first | contradiction | omega | exact h Iff.rfl)) | fail)
    have hb0 : (s1.fused 1 bs).looks 0 = 0 := by rw [← hs1]; rfl
    with_reducible refine sw_call (dBarrier_ok p _ hb0) ?_
    rintro _ _ (⟨hf, _⟩ | ⟨_, rfl, ks, hks, rfl⟩)
    focus
      exfalso
      exact hf rfl
    have hL := own_law (x := x) (xs := secOf a b) (bs := bs) (s := (s1.fused 1 bs).met) (by rw [← hs1]) ⟨hx0, hx1⟩ (Dk.met_wf hws) hks
    have hl5 : ((s1.fused 1 bs).met.gone ks bs).up.looks x = 0 := Dk.looks_ok rfl hx0 (by
      show x < (goS _ ks bs _).length
      rw [goS_len, ← hs1]
      exact hx1)
    have hke : (s1.fused 1 bs).keep = bs := rfl
    rw [hke]
    repeat' (first | with_reducible refine sw_op ?_ | with_reducible refine sw_op_ ?_ | ((with_reducible refine sw_call (dRestart_up p _) ?_); rintro _ _ ⟨rfl, rfl⟩) | with_reducible refine sw_nil ?_ | with_reducible refine sq_then ?_ | with_reducible refine sc_seq ?_ | with_reducible refine sc_region ?_ | with_reducible refine sw_guard_skip ?_ | with_reducible refine sw_guard_skip_ ?_ | with_reducible refine sw_guard_run ?_ | with_reducible refine sc_cond_true ?_ | with_reducible refine sc_cond_false ?_ | with_reducible refine sc_ret ?_ | with_reducible refine sq_then_ret ?_ | with_reducible refine sc_skip ?_ | with_reducible refine sc_block ?_ | with_reducible refine sq_block ?_ | with_reducible refine sq_block_ret ?_ | with_reducible refine sc_exit ?_ | with_reducible refine sq_then_exit ?_ | with_reducible refine sq_block_exit ?_ | with_reducible refine sq_block_past ?_ | with_reducible refine sq_round_ret ?_ | with_reducible refine sq_round_exit ?_ | (with_reducible refine sc_cond (fun h => ?_) (fun h => ?_)) <;> (try (exfalso; first | contradiction | omega | exact h Iff.rfl)) | (with_reducible refine sw_guard_split (fun h => ?_) (fun h => ?_)) <;> (try (exfalso; first | contradiction | omega | exact h Iff.rfl)) | (with_reducible refine sw_pick (fun h => ?_) (fun h => ?_)) <;> (try (exfalso; first | contradiction | omega | exact h Iff.rfl)) | fail)
    generalize ((s1.fused 1 bs).met.gone ks bs).up = s5 at hL hl5
    with_reducible refine sw_call (dRead_ok p s5 x hl5) ?_
    rintro _ _ ⟨bz, rfl, rfl⟩
    repeat' (first | with_reducible refine sw_op ?_ | with_reducible refine sw_op_ ?_ | with_reducible refine sw_nil ?_ | with_reducible refine sq_then ?_ | with_reducible refine sc_seq ?_ | with_reducible refine sc_region ?_ | with_reducible refine sw_guard_skip ?_ | with_reducible refine sw_guard_skip_ ?_ | with_reducible refine sw_guard_run ?_ | with_reducible refine sc_cond_true ?_ | with_reducible refine sc_cond_false ?_ | with_reducible refine sc_ret ?_ | with_reducible refine sq_then_ret ?_ | with_reducible refine sc_skip ?_ | with_reducible refine sc_block ?_ | with_reducible refine sq_block ?_ | with_reducible refine sq_block_ret ?_ | with_reducible refine sc_exit ?_ | with_reducible refine sq_then_exit ?_ | with_reducible refine sq_block_exit ?_ | with_reducible refine sq_block_past ?_ | with_reducible refine sq_round_ret ?_ | with_reducible refine sq_round_exit ?_ | (with_reducible refine sc_cond (fun h => ?_) (fun h => ?_)) <;> (try (exfalso; first | contradiction | omega | exact h Iff.rfl)) | (with_reducible refine sw_guard_split (fun h => ?_) (fun h => ?_)) <;> (try (exfalso; first | contradiction | omega | exact h Iff.rfl)) | (with_reducible refine sw_pick (fun h => ?_) (fun h => ?_)) <;> (try (exfalso; first | contradiction | omega | exact h Iff.rfl)) | fail)
  all_goals try
    obtain ⟨ab2, ao2, rfl⟩ := hkn (by omega)
    have hrd2 : Reads (ro W) (some ⟨ab2, ao2, none⟩) (bs.map Value.bool) := reads_ro hkr
    have hlt0 : 0 < bs.length := by omega
    have hbv : (bs.map Value.bool)[0]? = some (.bool bs[0]) := by rw [List.getElem?_map, List.getElem?_eq_getElem hlt0]; rfl
    with_reducible refine sw_index (by omega) ?_
    repeat' (first | with_reducible refine sw_op ?_ | with_reducible refine sw_op_ ?_ | with_reducible refine sw_nil ?_ | with_reducible refine sq_then ?_ | with_reducible refine sc_seq ?_ | with_reducible refine sc_region ?_ | with_reducible refine sw_guard_skip ?_ | with_reducible refine sw_guard_skip_ ?_ | with_reducible refine sw_guard_run ?_ | with_reducible refine sc_cond_true ?_ | with_reducible refine sc_cond_false ?_ | with_reducible refine sc_ret ?_ | with_reducible refine sq_then_ret ?_ | with_reducible refine sc_skip ?_ | with_reducible refine sc_block ?_ | with_reducible refine sq_block ?_ | with_reducible refine sq_block_ret ?_ | with_reducible refine sc_exit ?_ | with_reducible refine sq_then_exit ?_ | with_reducible refine sq_block_exit ?_ | with_reducible refine sq_block_past ?_ | with_reducible refine sq_round_ret ?_ | with_reducible refine sq_round_exit ?_ | fail)
    with_reducible refine sw_load_rd 0 0 (.bool bs[0]) hrd2 hbv (by omega) ?_
    repeat' (first | with_reducible refine sw_op ?_ | with_reducible refine sw_op_ ?_ | ((with_reducible refine sw_call (l2sector_ok _ _ ha hb) ?_); rintro _ _ ⟨q4, r4, rfl, rfl⟩) | with_reducible refine sw_makeSlice 512 512 ⟨rfl, rfl, by omega, by omega, by omega⟩ fun b4 => ?_ | with_reducible refine sw_nil ?_ | with_reducible refine sq_then ?_ | with_reducible refine sc_seq ?_ | with_reducible refine sc_region ?_ | with_reducible refine sw_guard_skip ?_ | with_reducible refine sw_guard_skip_ ?_ | with_reducible refine sw_guard_run ?_ | with_reducible refine sc_cond_true ?_ | with_reducible refine sc_cond_false ?_ | with_reducible refine sc_ret ?_ | with_reducible refine sq_then_ret ?_ | with_reducible refine sc_skip ?_ | with_reducible refine sc_block ?_ | with_reducible refine sq_block ?_ | with_reducible refine sq_block_ret ?_ | with_reducible refine sc_exit ?_ | with_reducible refine sq_then_exit ?_ | with_reducible refine sq_block_exit ?_ | with_reducible refine sq_block_past ?_ | with_reducible refine sq_round_ret ?_ | with_reducible refine sq_round_exit ?_ | (with_reducible refine sc_cond (fun h => ?_) (fun h => ?_)) <;> (try (exfalso; first | contradiction | omega | exact h Iff.rfl)) | (with_reducible refine sw_guard_split (fun h => ?_) (fun h => ?_)) <;> (try (exfalso; first | contradiction | omega | exact h Iff.rfl)) | (with_reducible refine sw_pick (fun h => ?_) (fun h => ?_)) <;> (try (exfalso; first | contradiction | omega | exact h Iff.rfl)) | fail)
  all_goals (try (repeat' (first | with_reducible refine sw_op ?_ | with_reducible refine sw_op_ ?_ | with_reducible refine sw_makeSlice 512 512 ⟨rfl, rfl, by omega, by omega, by omega⟩ fun b4 => ?_ | with_reducible refine sw_nil ?_ | with_reducible refine sq_then ?_ | with_reducible refine sc_seq ?_ | with_reducible refine sc_region ?_ | with_reducible refine sw_guard_skip ?_ | with_reducible refine sw_guard_skip_ ?_ | with_reducible refine sw_guard_run ?_ | with_reducible refine sc_cond_true ?_ | with_reducible refine sc_cond_false ?_ | with_reducible refine sc_ret ?_ | with_reducible refine sq_then_ret ?_ | with_reducible refine sc_skip ?_ | with_reducible refine sc_block ?_ | with_reducible refine sq_block ?_ | with_reducible refine sq_block_ret ?_ | with_reducible refine sc_exit ?_ | with_reducible refine sq_then_exit ?_ | with_reducible refine sq_block_exit ?_ | with_reducible refine sq_block_past ?_ | with_reducible refine sq_round_ret ?_ | with_reducible refine sq_round_exit ?_ | fail)))
  focus
    have hq : s5.now x = secOf a b := by rw [hL, if_pos (by rw [List.getElem?_eq_getElem hlt0]; simpa using h)]
    rw [hq]
    with_reducible refine sw_call (bEqual_same bz q4 _ _ _ _ 512 512 512 512 (secOf a b) reads_row0 reads_row hwx.len hwx.len hwx.byte) ?_
    rintro _ _ ⟨rfl, rfl⟩
    repeat' (first | with_reducible refine sw_op ?_ | with_reducible refine sw_op_ ?_ | with_reducible refine sw_nil ?_ | with_reducible refine sq_then ?_ | with_reducible refine sc_seq ?_ | with_reducible refine sc_region ?_ | with_reducible refine sw_guard_skip ?_ | with_reducible refine sw_guard_skip_ ?_ | with_reducible refine sw_guard_run ?_ | with_reducible refine sc_cond_true ?_ | with_reducible refine sc_cond_false ?_ | with_reducible refine sc_ret ?_ | with_reducible refine sq_then_ret ?_ | with_reducible refine sc_skip ?_ | with_reducible refine sc_block ?_ | with_reducible refine sq_block ?_ | with_reducible refine sq_block_ret ?_ | with_reducible refine sc_exit ?_ | with_reducible refine sq_then_exit ?_ | with_reducible refine sq_block_exit ?_ | with_reducible refine sq_block_past ?_ | with_reducible refine sq_round_ret ?_ | with_reducible refine sq_round_exit ?_ | fail)
    refine sq_ret1 Try.results9 ?_
    exact ⟨_, ⟨rfl, F, rfl⟩, by repeat' (first | with_reducible exact Ent.refl _ | with_reducible refine Ent.take_eq ?_ ?_ | rfl | with_reducible refine Ent.trans (Ent.drop _ _) ?_)⟩
  focus
    have hq : s5.now x = List.replicate 512 0 := by rw [hL, if_neg (by rw [List.getElem?_eq_getElem hlt0]; simpa using h)]
    rw [hq]
    with_reducible refine sw_call (bEqual_same bz b4 _ _ _ _ 512 512 512 512 (List.replicate 512 0) reads_row0 reads_zeros zeros_wf.len zeros_wf.len zeros_wf.byte) ?_
    rintro _ _ ⟨rfl, rfl⟩
    repeat' (first | with_reducible refine sw_op ?_ | with_reducible refine sw_op_ ?_ | with_reducible refine sw_nil ?_ | with_reducible refine sq_then ?_ | with_reducible refine sc_seq ?_ | with_reducible refine sc_region ?_ | with_reducible refine sw_guard_skip ?_ | with_reducible refine sw_guard_skip_ ?_ | with_reducible refine sw_guard_run ?_ | with_reducible refine sc_cond_true ?_ | with_reducible refine sc_cond_false ?_ | with_reducible refine sc_ret ?_ | with_reducible refine sq_then_ret ?_ | with_reducible refine sc_skip ?_ | with_reducible refine sc_block ?_ | with_reducible refine sq_block ?_ | with_reducible refine sq_block_ret ?_ | with_reducible refine sc_exit ?_ | with_reducible refine sq_then_exit ?_ | with_reducible refine sq_block_exit ?_ | with_reducible refine sq_block_past ?_ | with_reducible refine sq_round_ret ?_ | with_reducible refine sq_round_exit ?_ | fail)
    refine sq_ret1 Try.results9 ?_
    exact ⟨_, ⟨rfl, F, rfl⟩, by repeat' (first | with_reducible exact Ent.refl _ | with_reducible refine Ent.take_eq ?_ ?_ | rfl | with_reducible refine Ent.trans (Ent.drop _ _) ?_)⟩
  have hq : s5.now x = List.replicate 512 0 := by rw [hL, if_neg (by rw [List.getElem?_eq_none (by omega)]; simp)]
  rw [hq]
  with_reducible refine sw_call (bEqual_same bz b4 _ _ _ _ 512 512 512 512 (List.replicate 512 0) reads_row0 reads_zeros zeros_wf.len zeros_wf.len zeros_wf.byte) ?_
  rintro _ _ ⟨rfl, rfl⟩
  repeat' (first | with_reducible refine sw_op ?_ | with_reducible refine sw_op_ ?_ | with_reducible refine sw_nil ?_ | with_reducible refine sq_then ?_ | with_reducible refine sc_seq ?_ | with_reducible refine sc_region ?_ | with_reducible refine sw_guard_skip ?_ | with_reducible refine sw_guard_skip_ ?_ | with_reducible refine sw_guard_run ?_ | with_reducible refine sc_cond_true ?_ | with_reducible refine sc_cond_false ?_ | with_reducible refine sc_ret ?_ | with_reducible refine sq_then_ret ?_ | with_reducible refine sc_skip ?_ | with_reducible refine sc_block ?_ | with_reducible refine sq_block ?_ | with_reducible refine sq_block_ret ?_ | with_reducible refine sc_exit ?_ | with_reducible refine sq_then_exit ?_ | with_reducible refine sq_block_exit ?_ | with_reducible refine sq_block_past ?_ | with_reducible refine sq_round_ret ?_ | with_reducible refine sq_round_exit ?_ | fail)
  refine sq_ret1 Try.results9 ?_
  exact ⟨_, ⟨rfl, F, rfl⟩, by repeat' (first | with_reducible exact Ent.refl _ | with_reducible refine Ent.take_eq ?_ ?_ | rfl | with_reducible refine Ent.trans (Ent.drop _ _) ?_)⟩

theorem own_walk {W : World} {x a b : Int} {kv : Value} {bs : List Bool} (ha : (Lit.int .u8 a).wf = true) (hb : (Lit.int .u8 b).wf = true) (hk : RdW W kv (bs.map Value.bool)) (hlen : bs.length ≤ 140737488355328) :
    Calls Try.prog 9 #[.int .i64 x, .int .u8 a, .int .u8 b, kv] W fun e W' => e = .returned (.bool true) ∧ Below W.heap.size W W' := call_of_spec W (diskOwn_ok W x a b kv bs (wf_u8 ha) (wf_u8 hb) hk hlen)
end Go.Gsl
