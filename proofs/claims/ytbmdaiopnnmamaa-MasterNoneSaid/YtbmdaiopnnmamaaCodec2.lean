/- The codec: PutInt. -/
import Derived.Test.YtbmdaiopnnmamaaCodec1
namespace Go.Gsl
set_option linter.unusedVariables false
open Go.Proofs

/-- what Clip answers -/
def Clipped (r : HProp) (w : Value) (bs : List Int) : Prop := (w = .slice none 0 0 ∧ bs = []) ∨ ∃ b o, w = .slice (some ⟨b, o, none⟩) bs.length bs.length ∧ Reads r (some ⟨b, o, none⟩) (bs.map (Value.int .u8))
section
variable {P : Program} {ops : List Oper} {Q : Cont} {n : Nat} {w0 : World} {rest : List Oper} {e : Env} {Rs F : List Res} {ty : TypeId}
theorem sw_append_clip {d : Nat} {t el : TypeId} {nb : Nat} {x y : Operand} {z : Value} {m' c' b1 : Nat} {w : Value} {bs : List Int} {r : HProp} (k0 : Nat) (src : List Value) {pos : String} {after : Array Edge} (hcl : Clipped r w bs)
    [hx : Ev n e x w] [hy : Ev n e y (.slice (some ⟨b1, 0, none⟩) m' c')] [he : Elem P t el 1 nb z] [hz : One z] [tk : Take Rs k0 r F]
    (hsrc : ∀ w, Sat w0 w Rs → ∀ j v, src[j]? = some v → ∃ ad, some (⟨b1, 0, none⟩ : Addr) = some ad ∧ w.cell? (ad.add j) = some v)
    (h : 0 < m' ∧ src.length = m' ∧ bs.length + m' ≤ 9223372036854775807 ∧ (bs.length + m') * nb ≤ 140737488355328)
    (k : ∀ b' r, SW P ops Q n w0 rest ((d, .slice (some ⟨b', 0, none⟩) (bs.length + m') (bs.length + m' + r.length)) :: e) ((b', pts b' (.cells (bs.map (Value.int .u8) ++ src ++ r).toArray el (0, 0))) :: Rs)) :
    SW P ops Q n w0 ({ dst := some d, op := .call { callee := .builtin .append, args := [x, y].toArray, argTypes := [t, t].toArray }, type := ty, pos := pos, after := after, guard := none } :: rest) e Rs := by
  obtain ⟨h1, h2, h3, h4⟩ := h
  rcases hcl with ⟨rfl, rfl⟩ | ⟨b, o, rfl, hr⟩
  · exact sw_append_full (m := 0) (a := none) (cs := []) (src := src) (fun w hw j v hj => by simp at hj) (fun h => by omega) (fun _ => .inl rfl) hsrc ⟨h1, rfl, h2, by simpa using h3, by simpa using h4⟩ k
  · exact sw_append_full (cs := bs.map (Value.int .u8)) (src := src) (fun w hw => hr.sat (k := k0) hw) (fun _ => ⟨b, o, rfl⟩) (fun _ => .inr ⟨b, o, rfl⟩) hsrc ⟨h1, by rw [List.length_map], h2, h3, h4⟩ k
end

/-- what PutInt has put when 'j' bytes have come behind the head -/
def putS (bs : List Int) (h : Int) (g : Int → Int) (m : Int) (K j : Nat) : List Int := bs ++ h :: (List.range j).map fun i => g (m / 256 ^ (K - 1 - i) % 256)
theorem putS_len (bs : List Int) (h : Int) (g : Int → Int) (m : Int) (K j : Nat) : (putS bs h g m K j).length = bs.length + 1 + j := by
  unfold putS; simp; omega
theorem putS_zero (bs : List Int) (h : Int) (g : Int → Int) (m : Int) (K : Nat) : putS bs h g m K 0 = bs ++ [h] := rfl
theorem putS_succ (bs : List Int) (h : Int) (g : Int → Int) (m : Int) (K j : Nat) : putS bs h g m K (j + 1) = putS bs h g m K j ++ [g (m / 256 ^ (K - 1 - j) % 256)] := by
  unfold putS; rw [List.range_succ, List.map_append]; simp


set_option maxHeartbeats 1000000 in
theorem cPutInt_ok (k : Nat) (r : HProp) (v : Value) (bs : List Int) (n : Int) (h : RdB r v bs) (hl : bs.length ≤ 70368744177664) (hn : -9223372036854775808 ≤ n ∧ n ≤ 9223372036854775807) :
    Spec Try.prog 89 [v, .int .i64 n] [k] [r] fun F w Rs' => ∃ b t, w = .slice (some ⟨b, 0, none⟩) (bs ++ intB n).length ((bs ++ intB n).length + t.length) ∧ Rs' = (b, pts b (.cells ((bs ++ intB n).map (Value.int .u8) ++ t).toArray 5 (0, 0))) :: (k, r) :: F := by
  refine spec_of Try.func89 rfl Try.ntmps89 rfl ?_
  intro w0 F
  have hw := width_in n
  have hone := width_one (n := n)
  repeat' (first | with_reducible (first | refine sw_in (by omega) ?_ | refine sw_op ?_ | refine sw_op_ ?_) | ((with_reducible refine sw_call (clipB_ok k r v bs h) ?_); rintro cv _ ⟨hcl, rfl⟩) | ((with_reducible refine sw_call (cWidth_ok n hn) ?_); rintro _ _ ⟨rfl, rfl⟩) | with_reducible (first | refine sw_nil ?_ | refine sq_then ?_ | refine sc_seq ?_ | refine sc_region ?_ | refine sw_guard_skip ?_ | refine sw_guard_skip_ ?_ | refine sw_guard_run ?_ | refine sc_cond_true ?_ | refine sc_cond_false ?_ | refine sc_ret ?_ | refine sq_then_ret ?_ | refine sc_skip ?_ | refine sc_block ?_ | refine sq_block ?_ | refine sq_block_ret ?_ | refine sc_exit ?_ | refine sq_then_exit ?_ | refine sq_block_exit ?_ | refine sq_block_past ?_ | refine sq_round_ret ?_ | refine sq_round_exit ?_) | fail)
  replace hcl : Clipped r cv bs := hcl
  repeat' (first | with_reducible (first | refine sw_in (by omega) ?_ | refine sw_op ?_ | refine sw_op_ ?_) | with_reducible (first | refine sw_nil ?_ | refine sq_then ?_ | refine sc_seq ?_ | refine sc_region ?_ | refine sw_guard_skip ?_ | refine sw_guard_skip_ ?_ | refine sw_guard_run ?_ | refine sc_cond_true ?_ | refine sc_cond_false ?_ | refine sc_ret ?_ | refine sq_then_ret ?_ | refine sc_skip ?_ | refine sc_block ?_ | refine sq_block ?_ | refine sq_block_ret ?_ | refine sc_exit ?_ | refine sq_then_exit ?_ | refine sq_block_exit ?_ | refine sq_block_past ?_ | refine sq_round_ret ?_ | refine sq_round_exit ?_) | (with_reducible refine sc_cond (fun h => ?_) (fun h => ?_)) <;> (try (exfalso; first | contradiction | omega | exact h Iff.rfl)) | (with_reducible refine sw_guard_split (fun h => ?_) (fun h => ?_)) <;> (try (exfalso; first | contradiction | omega | exact h Iff.rfl)) | (with_reducible refine sw_pick (fun h => ?_) (fun h => ?_)) <;> (try (exfalso; first | contradiction | omega | exact h Iff.rfl)) | fail)
  · have h1 : width n = 1 := by omega
    have := hone h1
    repeat' (first | with_reducible (first | refine sw_in (by omega) ?_ | refine sw_op ?_ | refine sw_op_ ?_) | with_reducible (first | refine sw_nil ?_ | refine sq_then ?_ | refine sc_seq ?_ | refine sc_region ?_ | refine sw_guard_skip ?_ | refine sw_guard_skip_ ?_ | refine sw_guard_run ?_ | refine sc_cond_true ?_ | refine sc_cond_false ?_ | refine sc_ret ?_ | refine sq_then_ret ?_ | refine sc_skip ?_ | refine sc_block ?_ | refine sq_block ?_ | refine sq_block_ret ?_ | refine sc_exit ?_ | refine sq_then_exit ?_ | refine sq_block_exit ?_ | refine sq_block_past ?_ | refine sq_round_ret ?_ | refine sq_round_exit ?_) | (with_reducible refine sc_cond (fun h => ?_) (fun h => ?_)) <;> (try (exfalso; first | contradiction | omega | exact h Iff.rfl)) | (with_reducible refine sw_guard_split (fun h => ?_) (fun h => ?_)) <;> (try (exfalso; first | contradiction | omega | exact h Iff.rfl)) | (with_reducible refine sw_pick (fun h => ?_) (fun h => ?_)) <;> (try (exfalso; first | contradiction | omega | exact h Iff.rfl)) | fail)
    refine sw_buildSlice [.int .u8 (n + 108)] (by omega) rfl fun b1 => ?_
    refine sw_append_clip k [.int .u8 (n + 108)] hcl src_pts0 ⟨by simp, rfl, by simp; omega, by simp; omega⟩ fun b' t => ?_
    repeat' (first | with_reducible (first | refine sw_op ?_ | refine sw_op_ ?_) | with_reducible (first | refine sw_nil ?_ | refine sq_then ?_ | refine sc_seq ?_ | refine sc_region ?_ | refine sw_guard_skip ?_ | refine sw_guard_skip_ ?_ | refine sw_guard_run ?_ | refine sc_cond_true ?_ | refine sc_cond_false ?_ | refine sc_ret ?_ | refine sq_then_ret ?_ | refine sc_skip ?_ | refine sc_block ?_ | refine sq_block ?_ | refine sq_block_ret ?_ | refine sc_exit ?_ | refine sq_then_exit ?_ | refine sq_block_exit ?_ | refine sq_block_past ?_ | refine sq_round_ret ?_ | refine sq_round_exit ?_) | fail)
    have hb : bs ++ intB n = bs ++ [n + 108] := by unfold intB; rw [if_pos h1]
    rw [hb]
    refine sq_ret1 Try.results89 ?_
    refine ⟨_, ⟨b', t, ?_, rfl⟩, ?_⟩
    · rw [List.length_append]; rfl
    · rw [List.map_append]
      repeat' (first | with_reducible exact Ent.refl _ | with_reducible refine Ent.take_eq ?_ ?_ | rfl | with_reducible refine Ent.trans (Ent.drop _ _) ?_)
  · have h1 : ¬ width n = 1 := by omega
    obtain ⟨K, hK⟩ : ∃ K : Nat, width n = K + 1 := ⟨width n - 1, by omega⟩
    refine sw_cpl (by omega) ?_
    repeat' (first | with_reducible (first | refine sw_in (by omega) ?_ | refine sw_op ?_ | refine sw_op_ ?_) | with_reducible (first | refine sw_nil ?_ | refine sq_then ?_ | refine sc_seq ?_ | refine sc_region ?_ | refine sw_guard_skip ?_ | refine sw_guard_skip_ ?_ | refine sw_guard_run ?_ | refine sc_cond_true ?_ | refine sc_cond_false ?_ | refine sc_ret ?_ | refine sq_then_ret ?_ | refine sc_skip ?_ | refine sc_block ?_ | refine sq_block ?_ | refine sq_block_ret ?_ | refine sc_exit ?_ | refine sq_then_exit ?_ | refine sq_block_exit ?_ | refine sq_block_past ?_ | refine sq_round_ret ?_ | refine sq_round_exit ?_) | (with_reducible refine sc_cond (fun h => ?_) (fun h => ?_)) <;> (try (exfalso; first | contradiction | omega | exact h Iff.rfl)) | (with_reducible refine sw_guard_split (fun h => ?_) (fun h => ?_)) <;> (try (exfalso; first | contradiction | omega | exact h Iff.rfl)) | (with_reducible refine sw_pick (fun h => ?_) (fun h => ?_)) <;> (try (exfalso; first | contradiction | omega | exact h Iff.rfl)) | fail)
    refine sw_buildSlice [.int .u8 (8 - ((width n : Int) - 1))] (by omega) rfl fun b1 => ?_
    refine sw_append_clip k [.int .u8 (8 - ((width n : Int) - 1))] hcl src_pts0 ⟨by simp, rfl, by simp; omega, by simp; omega⟩ fun b' t => ?_
    repeat' (first | with_reducible (first | refine sw_in (by omega) ?_ | refine sw_op ?_ | refine sw_op_ ?_) | with_reducible (first | refine sw_nil ?_ | refine sq_then ?_ | refine sc_seq ?_ | refine sc_region ?_ | refine sw_guard_skip ?_ | refine sw_guard_skip_ ?_ | refine sw_guard_run ?_ | refine sc_cond_true ?_ | refine sc_cond_false ?_ | refine sc_ret ?_ | refine sq_then_ret ?_ | refine sc_skip ?_ | refine sc_block ?_ | refine sq_block ?_ | refine sq_block_ret ?_ | refine sc_exit ?_ | refine sq_then_exit ?_ | refine sq_block_exit ?_ | refine sq_block_past ?_ | refine sq_round_ret ?_ | refine sq_round_exit ?_) | (with_reducible refine sc_cond (fun h => ?_) (fun h => ?_)) <;> (try (exfalso; first | contradiction | omega | exact h Iff.rfl)) | (with_reducible refine sw_guard_split (fun h => ?_) (fun h => ?_)) <;> (try (exfalso; first | contradiction | omega | exact h Iff.rfl)) | (with_reducible refine sw_pick (fun h => ?_) (fun h => ?_)) <;> (try (exfalso; first | contradiction | omega | exact h Iff.rfl)) | fail)
    refine sc_loop (α := { x : Nat × Nat × List Value // x.1 ≤ K }) (fun x => [(0, .slice (some ⟨x.1.2.1, 0, none⟩) (putS bs (8 - ((width n : Int) - 1)) (fun a => 255 - a) (-n - 1) K x.1.1).length ((putS bs (8 - ((width n : Int) - 1)) (fun a => 255 - a) (-n - 1) K x.1.1).length + x.1.2.2.length)), (1, .int .i64 (-n - 1)), (7, .int .u8 255), (8, .int .i64 (8 * ((K : Int) - 1) - 8 * (x.1.1 : Int)))])
      (fun x => (x.1.2.1, pts x.1.2.1 (.cells ((putS bs (8 - ((width n : Int) - 1)) (fun a => 255 - a) (-n - 1) K x.1.1).map (Value.int .u8) ++ x.1.2.2).toArray 5 (0, 0))) :: (k, r) :: F) (fun x => K - x.1.1) ⟨(0, b', t), Nat.zero_le _⟩ ?_ ?_ ?_
    · refine says_cons ?_ (says_cons rfl (says_cons rfl (says_cons ?_ says_nil)))
      · rw [putS_len]; try rfl
      · have hs0 : (8 * ((K : Int) - 1) - 8 * ((0 : Nat) : Int)) = 8 * ((width n : Int) - 1 - 1) := by omega
        dsimp only
        rw [hs0]; try rfl
    · show Ent _ ((b', pts b' (.cells ((putS bs (8 - ((width n : Int) - 1)) (fun a => 255 - a) (-n - 1) K 0).map (Value.int .u8) ++ t).toArray 5 (0, 0))) :: (k, r) :: F)
      rw [putS_zero, List.map_append]
      repeat' (first | with_reducible exact Ent.refl _ | with_reducible refine Ent.take_eq ?_ ?_ | rfl | with_reducible refine Ent.trans (Ent.drop _ _) ?_)
    rintro ⟨⟨j, b2, t2⟩, hj⟩ e
    simp only at hj
    simp only [List.cons_append, List.nil_append]
    have hSl := putS_len bs (8 - ((width n : Int) - 1)) (fun a => 255 - a) (-n - 1) K j
    repeat' (first | with_reducible (first | refine sw_in (by omega) ?_ | refine sw_op ?_ | refine sw_op_ ?_) | with_reducible (first | refine sw_nil ?_ | refine sq_then ?_ | refine sc_seq ?_ | refine sc_region ?_ | refine sw_guard_skip ?_ | refine sw_guard_skip_ ?_ | refine sw_guard_run ?_ | refine sc_cond_true ?_ | refine sc_cond_false ?_ | refine sc_ret ?_ | refine sq_then_ret ?_ | refine sc_skip ?_ | refine sc_block ?_ | refine sq_block ?_ | refine sq_block_ret ?_ | refine sc_exit ?_ | refine sq_then_exit ?_ | refine sq_block_exit ?_ | refine sq_block_past ?_ | refine sq_round_ret ?_ | refine sq_round_exit ?_) | (with_reducible refine sc_cond (fun h => ?_) (fun h => ?_)) <;> (try (exfalso; first | contradiction | omega | exact h Iff.rfl)) | fail)
    focus
      refine sw_shrP (k := .i64) (8 * (K - 1 - j)) (256 ^ (K - 1 - j)) ⟨by omega, by show _ ≤ 64; omega, by omega, pow256 _⟩ ?_
      repeat' (first | with_reducible (first | refine sw_op ?_ | refine sw_op_ ?_) | with_reducible (first | refine sw_nil ?_ | refine sq_then ?_ | refine sc_seq ?_ | refine sc_region ?_ | refine sw_guard_skip ?_ | refine sw_guard_skip_ ?_ | refine sw_guard_run ?_ | refine sc_cond_true ?_ | refine sc_cond_false ?_ | refine sc_ret ?_ | refine sq_then_ret ?_ | refine sc_skip ?_ | refine sc_block ?_ | refine sq_block ?_ | refine sq_block_ret ?_ | refine sc_exit ?_ | refine sq_then_exit ?_ | refine sq_block_exit ?_ | refine sq_block_past ?_ | refine sq_round_ret ?_ | refine sq_round_exit ?_) | fail)
      rw [wrap_u8_mod, ixor_u8_255 (a := (-n - 1) / 256 ^ (K - 1 - j) % 256) (by omega)]
      refine sw_buildSlice [.int .u8 ((fun a => 255 - a) ((-n - 1) / 256 ^ (K - 1 - j) % 256))] (by omega) rfl fun b3 => ?_
      refine sw_append (src := [Value.int .u8 ((fun a => 255 - a) ((-n - 1) / 256 ^ (K - 1 - j) % 256))]) src_pts0 (by simp [Value.oneCell']) ⟨by omega, by rw [List.length_append, List.length_map], rfl, by simp only [List.length_singleton]; omega, by simp only [List.length_singleton]; omega⟩ fun b4 t4 => ?_
      rw [List.take_left' (by rw [List.length_map])]
      repeat' (first | with_reducible (first | refine sw_in (by omega) ?_ | refine sw_op ?_ | refine sw_op_ ?_) | with_reducible (first | refine sw_nil ?_ | refine sq_then ?_ | refine sc_seq ?_ | refine sc_region ?_ | refine sw_guard_skip ?_ | refine sw_guard_skip_ ?_ | refine sw_guard_run ?_ | refine sc_cond_true ?_ | refine sc_cond_false ?_ | refine sc_ret ?_ | refine sq_then_ret ?_ | refine sc_skip ?_ | refine sc_block ?_ | refine sq_block ?_ | refine sq_block_ret ?_ | refine sc_exit ?_ | refine sq_then_exit ?_ | refine sq_block_exit ?_ | refine sq_block_past ?_ | refine sq_round_ret ?_ | refine sq_round_exit ?_) | (with_reducible refine sc_cond (fun h => ?_) (fun h => ?_)) <;> (try (exfalso; first | contradiction | omega | exact h Iff.rfl)) | fail)
      refine sq_round ⟨(j + 1, b4, t4), by omega⟩ ?_ ?_ ?_
      · show K - (j + 1) < K - j
        omega
      · refine says_cons ?_ (says_cons rfl (says_cons rfl (says_cons ?_ says_nil)))
        · dsimp only; rw [putS_succ, List.length_append]; try rfl
        · have hs1 : (8 * ((K : Int) - 1) - 8 * ((j + 1 : Nat) : Int)) = 8 * ((K : Int) - 1) - 8 * (j : Int) - 8 := by omega
          dsimp only
          rw [hs1]; try rfl
      · show Ent _ ((b4, pts b4 (.cells ((putS bs (8 - ((width n : Int) - 1)) (fun a => 255 - a) (-n - 1) K (j + 1)).map (Value.int .u8) ++ t4).toArray 5 (0, 0))) :: (k, r) :: F)
        rw [putS_succ, List.map_append]
        repeat' (first | with_reducible exact Ent.refl _ | with_reducible refine Ent.take_eq ?_ ?_ | rfl | with_reducible refine Ent.trans (Ent.drop _ _) ?_)
    have hjK : j = K := by omega
    subst hjK
    have hfin : putS bs (8 - ((width n : Int) - 1)) (fun a => 255 - a) (-n - 1) j j = bs ++ intB n := (by
          unfold intB putS
          rw [if_neg h1, if_pos (by omega), hK]
          congr 1
          congr 1
          · omega
          · unfold beB
            rw [List.map_map]; rfl)
    rw [hfin]
    refine sq_ret1 Try.results89 ?_
    refine ⟨_, ⟨b2, t2, rfl, rfl⟩, Ent.refl _⟩
  · have h1 : ¬ width n = 1 := by omega
    obtain ⟨K, hK⟩ : ∃ K : Nat, width n = K + 1 := ⟨width n - 1, by omega⟩
    refine sw_buildSlice [.int .u8 (208 + ((width n : Int) - 1))] (by omega) rfl fun b1 => ?_
    refine sw_append_clip k [.int .u8 (208 + ((width n : Int) - 1))] hcl src_pts0 ⟨by simp, rfl, by simp; omega, by simp; omega⟩ fun b' t => ?_
    repeat' (first | with_reducible (first | refine sw_in (by omega) ?_ | refine sw_op ?_ | refine sw_op_ ?_) | with_reducible (first | refine sw_nil ?_ | refine sq_then ?_ | refine sc_seq ?_ | refine sc_region ?_ | refine sw_guard_skip ?_ | refine sw_guard_skip_ ?_ | refine sw_guard_run ?_ | refine sc_cond_true ?_ | refine sc_cond_false ?_ | refine sc_ret ?_ | refine sq_then_ret ?_ | refine sc_skip ?_ | refine sc_block ?_ | refine sq_block ?_ | refine sq_block_ret ?_ | refine sc_exit ?_ | refine sq_then_exit ?_ | refine sq_block_exit ?_ | refine sq_block_past ?_ | refine sq_round_ret ?_ | refine sq_round_exit ?_) | (with_reducible refine sc_cond (fun h => ?_) (fun h => ?_)) <;> (try (exfalso; first | contradiction | omega | exact h Iff.rfl)) | (with_reducible refine sw_guard_split (fun h => ?_) (fun h => ?_)) <;> (try (exfalso; first | contradiction | omega | exact h Iff.rfl)) | (with_reducible refine sw_pick (fun h => ?_) (fun h => ?_)) <;> (try (exfalso; first | contradiction | omega | exact h Iff.rfl)) | fail)
    refine sc_loop (α := { x : Nat × Nat × List Value // x.1 ≤ K }) (fun x => [(0, .slice (some ⟨x.1.2.1, 0, none⟩) (putS bs (208 + ((width n : Int) - 1)) (fun a => a) (n) K x.1.1).length ((putS bs (208 + ((width n : Int) - 1)) (fun a => a) (n) K x.1.1).length + x.1.2.2.length)), (1, .int .i64 (n)), (7, .int .u8 0), (8, .int .i64 (8 * ((K : Int) - 1) - 8 * (x.1.1 : Int)))])
      (fun x => (x.1.2.1, pts x.1.2.1 (.cells ((putS bs (208 + ((width n : Int) - 1)) (fun a => a) (n) K x.1.1).map (Value.int .u8) ++ x.1.2.2).toArray 5 (0, 0))) :: (k, r) :: F) (fun x => K - x.1.1) ⟨(0, b', t), Nat.zero_le _⟩ ?_ ?_ ?_
    · refine says_cons ?_ (says_cons rfl (says_cons rfl (says_cons ?_ says_nil)))
      · rw [putS_len]; try rfl
      · have hs0 : (8 * ((K : Int) - 1) - 8 * ((0 : Nat) : Int)) = 8 * ((width n : Int) - 1 - 1) := by omega
        dsimp only
        rw [hs0]; try rfl
    · show Ent _ ((b', pts b' (.cells ((putS bs (208 + ((width n : Int) - 1)) (fun a => a) (n) K 0).map (Value.int .u8) ++ t).toArray 5 (0, 0))) :: (k, r) :: F)
      rw [putS_zero, List.map_append]
      repeat' (first | with_reducible exact Ent.refl _ | with_reducible refine Ent.take_eq ?_ ?_ | rfl | with_reducible refine Ent.trans (Ent.drop _ _) ?_)
    rintro ⟨⟨j, b2, t2⟩, hj⟩ e
    simp only at hj
    simp only [List.cons_append, List.nil_append]
    have hSl := putS_len bs (208 + ((width n : Int) - 1)) (fun a => a) (n) K j
    repeat' (first | with_reducible (first | refine sw_in (by omega) ?_ | refine sw_op ?_ | refine sw_op_ ?_) | with_reducible (first | refine sw_nil ?_ | refine sq_then ?_ | refine sc_seq ?_ | refine sc_region ?_ | refine sw_guard_skip ?_ | refine sw_guard_skip_ ?_ | refine sw_guard_run ?_ | refine sc_cond_true ?_ | refine sc_cond_false ?_ | refine sc_ret ?_ | refine sq_then_ret ?_ | refine sc_skip ?_ | refine sc_block ?_ | refine sq_block ?_ | refine sq_block_ret ?_ | refine sc_exit ?_ | refine sq_then_exit ?_ | refine sq_block_exit ?_ | refine sq_block_past ?_ | refine sq_round_ret ?_ | refine sq_round_exit ?_) | (with_reducible refine sc_cond (fun h => ?_) (fun h => ?_)) <;> (try (exfalso; first | contradiction | omega | exact h Iff.rfl)) | fail)
    focus
      refine sw_shrP (k := .i64) (8 * (K - 1 - j)) (256 ^ (K - 1 - j)) ⟨by omega, by show _ ≤ 64; omega, by omega, pow256 _⟩ ?_
      repeat' (first | with_reducible (first | refine sw_op ?_ | refine sw_op_ ?_) | with_reducible (first | refine sw_nil ?_ | refine sq_then ?_ | refine sc_seq ?_ | refine sc_region ?_ | refine sw_guard_skip ?_ | refine sw_guard_skip_ ?_ | refine sw_guard_run ?_ | refine sc_cond_true ?_ | refine sc_cond_false ?_ | refine sc_ret ?_ | refine sq_then_ret ?_ | refine sc_skip ?_ | refine sc_block ?_ | refine sq_block ?_ | refine sq_block_ret ?_ | refine sc_exit ?_ | refine sq_then_exit ?_ | refine sq_block_exit ?_ | refine sq_block_past ?_ | refine sq_round_ret ?_ | refine sq_round_exit ?_) | fail)
      rw [wrap_u8_mod, ixor_u8_0 (a := (n) / 256 ^ (K - 1 - j) % 256) (by omega)]
      refine sw_buildSlice [.int .u8 ((fun a => a) ((n) / 256 ^ (K - 1 - j) % 256))] (by omega) rfl fun b3 => ?_
      refine sw_append (src := [Value.int .u8 ((fun a => a) ((n) / 256 ^ (K - 1 - j) % 256))]) src_pts0 (by simp [Value.oneCell']) ⟨by omega, by rw [List.length_append, List.length_map], rfl, by simp only [List.length_singleton]; omega, by simp only [List.length_singleton]; omega⟩ fun b4 t4 => ?_
      rw [List.take_left' (by rw [List.length_map])]
      repeat' (first | with_reducible (first | refine sw_in (by omega) ?_ | refine sw_op ?_ | refine sw_op_ ?_) | with_reducible (first | refine sw_nil ?_ | refine sq_then ?_ | refine sc_seq ?_ | refine sc_region ?_ | refine sw_guard_skip ?_ | refine sw_guard_skip_ ?_ | refine sw_guard_run ?_ | refine sc_cond_true ?_ | refine sc_cond_false ?_ | refine sc_ret ?_ | refine sq_then_ret ?_ | refine sc_skip ?_ | refine sc_block ?_ | refine sq_block ?_ | refine sq_block_ret ?_ | refine sc_exit ?_ | refine sq_then_exit ?_ | refine sq_block_exit ?_ | refine sq_block_past ?_ | refine sq_round_ret ?_ | refine sq_round_exit ?_) | (with_reducible refine sc_cond (fun h => ?_) (fun h => ?_)) <;> (try (exfalso; first | contradiction | omega | exact h Iff.rfl)) | fail)
      refine sq_round ⟨(j + 1, b4, t4), by omega⟩ ?_ ?_ ?_
      · show K - (j + 1) < K - j
        omega
      · refine says_cons ?_ (says_cons rfl (says_cons rfl (says_cons ?_ says_nil)))
        · dsimp only; rw [putS_succ, List.length_append]; try rfl
        · have hs1 : (8 * ((K : Int) - 1) - 8 * ((j + 1 : Nat) : Int)) = 8 * ((K : Int) - 1) - 8 * (j : Int) - 8 := by omega
          dsimp only
          rw [hs1]; try rfl
      · show Ent _ ((b4, pts b4 (.cells ((putS bs (208 + ((width n : Int) - 1)) (fun a => a) (n) K (j + 1)).map (Value.int .u8) ++ t4).toArray 5 (0, 0))) :: (k, r) :: F)
        rw [putS_succ, List.map_append]
        repeat' (first | with_reducible exact Ent.refl _ | with_reducible refine Ent.take_eq ?_ ?_ | rfl | with_reducible refine Ent.trans (Ent.drop _ _) ?_)
    have hjK : j = K := by omega
    subst hjK
    have hfin : putS bs (208 + ((width n : Int) - 1)) (fun a => a) (n) j j = bs ++ intB n := (by
          unfold intB putS
          rw [if_neg h1, if_neg (by omega), hK]
          congr 1
          congr 1
          omega)
    rw [hfin]
    refine sq_ret1 Try.results89 ?_
    refine ⟨_, ⟨b2, t2, rfl, rfl⟩, Ent.refl _⟩
end Go.Gsl
