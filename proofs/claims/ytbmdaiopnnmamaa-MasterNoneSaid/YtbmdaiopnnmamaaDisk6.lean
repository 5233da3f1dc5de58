/- Write, Barrier. -/
import Derived.Test.YtbmdaiopnnmamaaDisk5
namespace Go.Gsl
set_option linter.unusedVariables false
open Go.Proofs

theorem dWrite_bad (p k : Nat) (s : Dk) (r : HProp) (v : Value) (a : Int) (hb : s.looks a ≠ 0) : Spec Try.prog 67 [.pointer (some ⟨p, 0, none⟩), .int .i64 a, v] [p, k] [DISK p s, r]
    fun F v Rs' => v = .int .i64 (s.looks a) ∧ Rs' = (p, DISK p s) :: (k, r) :: F := by
  refine spec_of Try.func67 rfl Try.ntmps67 rfl ?_
  intro w0 F
  repeat' (first | with_reducible (first | refine sw_op ?_ | refine sw_op_ ?_) | ((with_reducible refine sw_call (dLooks_ok p s a) ?_); rintro _ _ ⟨rfl, rfl⟩) | with_reducible (first | refine sw_nil ?_ | refine sq_then ?_ | refine sc_seq ?_ | refine sc_region ?_ | refine sw_guard_skip ?_ | refine sw_guard_skip_ ?_ | refine sw_guard_run ?_ | refine sc_cond_true ?_ | refine sc_cond_false ?_ | refine sc_ret ?_ | refine sq_then_ret ?_ | refine sc_skip ?_ | refine sc_block ?_ | refine sq_block ?_ | refine sq_block_ret ?_ | refine sc_exit ?_ | refine sq_then_exit ?_ | refine sq_block_exit ?_ | refine sq_block_past ?_ | refine sq_round_ret ?_ | refine sq_round_exit ?_) | (with_reducible refine sc_cond (fun h => ?_) (fun h => ?_)) <;> (try (exfalso; first | contradiction | omega | exact h Iff.rfl)) | (with_reducible refine sw_guard_split (fun h => ?_) (fun h => ?_)) <;> (try (exfalso; first | contradiction | omega | exact h Iff.rfl)) | (with_reducible refine sw_pick (fun h => ?_) (fun h => ?_)) <;> (try (exfalso; first | contradiction | omega | exact h Iff.rfl)) | fail)
  refine sq_ret1 Try.results67 ?_
  exact ⟨_, ⟨rfl, rfl⟩, Ent.refl _⟩
theorem dWrite_len (p k : Nat) (s : Dk) (r : HProp) (ad : Option Addr) (m c : Nat) (a : Int) (hb : s.looks a = 0) (hm : m ≠ 512) : Spec Try.prog 67 [.pointer (some ⟨p, 0, none⟩), .int .i64 a, .slice ad m c] [p, k] [DISK p s, r]
    fun F v Rs' => v = .int .i64 1 ∧ Rs' = (p, DISK p s) :: (k, r) :: F := by
  refine spec_of Try.func67 rfl Try.ntmps67 rfl ?_
  intro w0 F
  repeat' (first | with_reducible (first | refine sw_op ?_ | refine sw_op_ ?_) | ((with_reducible refine sw_call (dLooks_ok p s a) ?_); rintro _ _ ⟨rfl, rfl⟩) | with_reducible (first | refine sw_nil ?_ | refine sq_then ?_ | refine sc_seq ?_ | refine sc_region ?_ | refine sw_guard_skip ?_ | refine sw_guard_skip_ ?_ | refine sw_guard_run ?_ | refine sc_cond_true ?_ | refine sc_cond_false ?_ | refine sc_ret ?_ | refine sq_then_ret ?_ | refine sc_skip ?_ | refine sc_block ?_ | refine sq_block ?_ | refine sq_block_ret ?_ | refine sc_exit ?_ | refine sq_then_exit ?_ | refine sq_block_exit ?_ | refine sq_block_past ?_ | refine sq_round_ret ?_ | refine sq_round_exit ?_) | (with_reducible refine sc_cond (fun h => ?_) (fun h => ?_)) <;> (try (exfalso; first | contradiction | omega | exact h Iff.rfl)) | (with_reducible refine sw_guard_split (fun h => ?_) (fun h => ?_)) <;> (try (exfalso; first | contradiction | omega | exact h Iff.rfl)) | (with_reducible refine sw_pick (fun h => ?_) (fun h => ?_)) <;> (try (exfalso; first | contradiction | omega | exact h Iff.rfl)) | fail)
  refine sq_ret1 Try.results67 ?_
  exact ⟨_, ⟨rfl, rfl⟩, Ent.refl _⟩

/-- a sector written -/
def Dk.wrote (s : Dk) (a : Int) (xs : List Int) : Dk := { s.met with dirty := fun j => if j = a then some xs else s.dirty j }
theorem Dk.wrote_wf {s : Dk} (h : s.met.Wf) {a : Int} {xs : List Int} (h0 : 0 ≤ a) (h1 : a < s.sure.length) (hx : SecWf xs) : (s.wrote a xs).Wf where
  n1 := h.n1
  n2 := h.n2
  sec := h.sec
  dsec := fun i ys hy => by
    simp only [Dk.wrote] at hy
    split at hy
    · cases hy; exact hx
    · exact h.dsec i ys hy
  dat := fun i ys hy => by
    simp only [Dk.wrote] at hy
    split at hy
    · rename_i e; subst e; exact ⟨h0, h1⟩
    · exact h.dat i ys hy
  f1 := h.f1
  f2 := h.f2
  k1 := h.k1

def DX.wrote (x : DX) (a : Int) (v : Value) : DX := { x with f := mput x.f a v }
theorem DX.Ok.wrote_ok {s : Dk} {x : DX} {a : Int} {v : Value} {xs : List Int} (hx : x.Ok s.met) (hw : (s.wrote a xs).Wf) (hv : v.oneCell' = true) : (x.wrote a v).Ok (s.wrote a xs) where
  wf := hw
  len := hx.len
  dom := fun j => by
    have := hx.dom j
    simp only [DX.wrote, mput, Dk.wrote]
    by_cases h : j = a
    · simp [h]
    · simp only [h, if_false]; exact this
  one := fun j u hu => by
    simp only [DX.wrote, mput] at hu
    split at hu
    · cases hu; exact hv
    · exact hx.one j u hu
theorem DPers.wrote {x : DX} {s : Dk} {a : Int} {v : Value} {xs : List Int} {h1 h2 : Hp} (hd : hdisj h1 h2) (hp : DPers x.vs x.f x.kv s.met h1) (hs : Sec v xs h2) : DPers (x.wrote a v).vs (x.wrote a v).f (x.wrote a v).kv (s.wrote a xs) (hjoin h1 h2) := by
  refine ⟨hp.1.left, fun j => ?_, hp.2.2.left⟩
  obtain ⟨e1, e2⟩ := hp.2.1.left (y := h2) j
  simp only [DX.wrote, mput, Dk.wrote]
  by_cases hj : j = a
  · simp only [hj, if_true]
    exact ⟨rfl, fun u ys hu hy => by cases hu; cases hy; exact hs.right hd⟩
  · simp only [hj, if_false]
    exact ⟨e1, e2⟩

theorem BoolsI.fp {v : Value} {bs : List Bool} {h : Hp} (hs : BoolsI v bs h) : BoolsI v bs (fpart h) := by
  rcases hs with h | ⟨b, r, hv, hi⟩
  · exact .inl h
  · exact .inr ⟨b, r, hv, imm_fpart hi⟩

/-- bools that lie for ever can be read -/
theorem sw_bools {P : Program} {ops : List Oper} {Q : Cont} {n : Nat} {w0 : World} {l : List Oper} {e : Env} {Rs F : List Res} (k : Nat) {v : Value} {bs : List Bool} [t : Take Rs k (BoolsI v bs) F] (q : ∀ r, RdBools r v bs → SW P ops Q n w0 l e ((k, r) :: F)) : SW P ops Q n w0 l e Rs := by
  intro w hw
  obtain ⟨y, hy, h⟩ := (hw.ent t.ent).opn (α := Option (Nat × List Value)) (φ := fun y => match y with
      | none => v = .slice none 0 0 ∧ bs = []
      | some (b, r) => v = .slice (some ⟨b, 0, none⟩) bs.length (bs.length + r.length))
    (p := fun y => match y with
      | none => fun _ => True
      | some (b, r) => imm b (.cells (bs.map Value.bool ++ r).toArray 4 (0, 0)))
    (by rintro x (⟨h1, h2⟩ | ⟨b, r, h1, h2⟩)
        · exact ⟨none, ⟨h1, h2⟩, trivial⟩
        · exact ⟨some (b, r), h1, h2⟩)
  cases y with
  | none =>
    obtain ⟨rfl, rfl⟩ := hy
    exact q _ ⟨none, 0, rfl, fun h => by simp at h, reads_nil _ _⟩ w h
  | some y =>
    obtain ⟨b, r⟩ := y
    simp only at hy
    subst hy
    refine q _ ⟨some ⟨b, 0, none⟩, _, rfl, fun _ => ⟨b, 0, rfl⟩, ?_⟩ w h
    exact reads_imm fun j u hj => by rw [Nat.zero_add, List.getElem?_append_left (List.getElem?_eq_some_iff.1 hj).1]; exact hj

theorem dWrite_ok (p k : Nat) (s : Dk) (r : HProp) (ad : Option Addr) (c : Nat) (a : Int) (xs : List Int) (hb : s.looks a = 0) (hx : SecWf xs) (hne : ad ≠ none) (hr : Reads r ad (xs.map (Value.int .u8))) : Spec Try.prog 67 [.pointer (some ⟨p, 0, none⟩), .int .i64 a, .slice ad 512 c] [p, k] [DISK p s, r]
    fun F v Rs' => (s.fuse ≠ 1 ∧ v = .int .i64 0 ∧ Rs' = (p, DISK p (s.wrote a xs)) :: (k, r) :: F) ∨
      (s.fuse = 1 ∧ v = .int .i64 6 ∧ ∃ ks, KeysD (s.wrote a xs).dirty ks ∧ Rs' = (p, DISK p ((s.wrote a xs).gone ks s.keep)) :: (k, r) :: F) := by
  refine spec_of Try.func67 rfl Try.ntmps67 rfl ?_
  intro w0 F
  repeat' (first | with_reducible (first | refine sw_op ?_ | refine sw_op_ ?_) | ((with_reducible refine sw_call (dLooks_ok p s a) ?_); rintro _ _ ⟨rfl, rfl⟩) | ((with_reducible refine sw_call (dMeets_ok p s) ?_); rintro _ _ ⟨rfl, rfl⟩) | with_reducible (first | refine sw_nil ?_ | refine sq_then ?_ | refine sc_seq ?_ | refine sc_region ?_ | refine sw_guard_skip ?_ | refine sw_guard_skip_ ?_ | refine sw_guard_run ?_ | refine sc_cond_true ?_ | refine sc_cond_false ?_ | refine sc_ret ?_ | refine sq_then_ret ?_ | refine sc_skip ?_ | refine sc_block ?_ | refine sq_block ?_ | refine sq_block_ret ?_ | refine sc_exit ?_ | refine sq_then_exit ?_ | refine sq_block_exit ?_ | refine sq_block_past ?_ | refine sq_round_ret ?_ | refine sq_round_exit ?_) | (with_reducible refine sc_cond (fun h => ?_) (fun h => ?_)) <;> (try (exfalso; first | contradiction | omega | exact h Iff.rfl)) | (with_reducible refine sw_guard_split (fun h => ?_) (fun h => ?_)) <;> (try (exfalso; first | contradiction | omega | exact h Iff.rfl)) | (with_reducible refine sw_pick (fun h => ?_) (fun h => ?_)) <;> (try (exfalso; first | contradiction | omega | exact h Iff.rfl)) | fail)
  have hin : 0 ≤ a ∧ a < s.sure.length := by
    unfold Dk.looks at hb
    split at hb
    · cases hb
    · split at hb
      · cases hb
      · omega
  refine DISK.sc (p := p) (s := s.met) fun x hX => ?_
  unfold DISKl
  refine sc_drawC (m := 8) ([(p, pts p (drow x.bS x.vs.length (x.vs.length + x.r.length) x.m s.met.down s.met.calls s.met.fuse x.kv))]) (by repeat' (first | with_reducible exact calm_post | with_reducible refine Calm.then ?_ | with_reducible refine Calm.block ?_ | with_reducible refine Calm.round ?_ | with_reducible refine Calm.mark ?_)) (by kernel_rfl) rfl (fun hcalm => ?_)
  all_goals (first | refine sg_take 0 hcalm rfl (by kernel_rfl) (by kernel_rfl) (by kernel_rfl) ?_)
  all_goals (first | refine sg_take 1 hcalm rfl (by kernel_rfl) (by kernel_rfl) (by kernel_rfl) ?_)
  all_goals (first | refine sg_take 2 hcalm rfl (by kernel_rfl) (by kernel_rfl) (by kernel_rfl) ?_)
  all_goals (first | refine sg_take 3 hcalm rfl (by kernel_rfl) (by kernel_rfl) (by kernel_rfl) ?_)
  all_goals (first | refine sg_take 4 hcalm rfl (by kernel_rfl) (by kernel_rfl) (by kernel_rfl) ?_)
  all_goals (first | refine sg_take 5 hcalm rfl (by kernel_rfl) (by kernel_rfl) (by kernel_rfl) ?_)
  all_goals (refine sg_one 6 rfl (by kernel_rfl) rfl ?_)
  all_goals (repeat' (first | with_reducible (first | refine sw_op ?_ | refine sw_op_ ?_) | ((with_reducible refine sw_call (clB_ok k r ad 512 c (xs.map (Value.int .u8)) hr (one_ints _ _) (by rw [List.length_map, hx.len]) (by omega)) ?_); rintro _ _ (⟨hN, _⟩ | ⟨_, b, t, rfl, rfl⟩); · exact absurd hN hne) | with_reducible refine sw_mapUpdate ?_ | with_reducible refine sg_back ?_ | with_reducible (first | refine sw_nil ?_ | refine sq_then ?_ | refine sc_seq ?_ | refine sc_region ?_ | refine sw_guard_skip ?_ | refine sw_guard_skip_ ?_ | refine sw_guard_run ?_ | refine sc_cond_true ?_ | refine sc_cond_false ?_ | refine sc_ret ?_ | refine sq_then_ret ?_ | refine sc_skip ?_ | refine sc_block ?_ | refine sq_block ?_ | refine sq_block_ret ?_ | refine sc_exit ?_ | refine sq_then_exit ?_ | refine sq_block_exit ?_ | refine sq_block_past ?_ | refine sq_round_ret ?_ | refine sq_round_exit ?_) | fail))
  all_goals (refine sg_one 7 rfl (by kernel_rfl) rfl ?_)
  all_goals (repeat' (first | with_reducible (first | refine sw_op ?_ | refine sw_op_ ?_) | ((with_reducible refine sw_call (clB_ok k r ad 512 c (xs.map (Value.int .u8)) hr (one_ints _ _) (by rw [List.length_map, hx.len]) (by omega)) ?_); rintro _ _ (⟨hN, _⟩ | ⟨_, b, t, rfl, rfl⟩); · exact absurd hN hne) | with_reducible refine sw_mapUpdate ?_ | with_reducible refine sg_back ?_ | with_reducible (first | refine sw_nil ?_ | refine sq_then ?_ | refine sc_seq ?_ | refine sc_region ?_ | refine sw_guard_skip ?_ | refine sw_guard_skip_ ?_ | refine sw_guard_run ?_ | refine sc_cond_true ?_ | refine sc_cond_false ?_ | refine sc_ret ?_ | refine sq_then_ret ?_ | refine sc_skip ?_ | refine sc_block ?_ | refine sq_block ?_ | refine sq_block_ret ?_ | refine sc_exit ?_ | refine sq_then_exit ?_ | refine sq_block_exit ?_ | refine sq_block_past ?_ | refine sq_round_ret ?_ | refine sq_round_exit ?_) | fail))
  all_goals (refine sg_done (by kernel_rfl) rfl ?_)
  refine sq_freeze (b := b) ?_
  refine sq_ent (Rs'' := (p, DISK p (s.wrote a xs)) :: (k, r) :: F) ?_ ?_
  · refine Ent.trans (B := DISKl p (s.wrote a xs) (x.wrote a (.slice (some ⟨b, 0, none⟩) 512 (512 + t.length))) ((k, r) :: F)) ?_ (DISK.close (hX.wrote_ok (Dk.wrote_wf hX.wf hin.1 hin.2 hx) rfl))
    unfold DISKl DX.wrote Dk.wrote
    simp only
    refine Ent.take_eq rfl (Ent.take_eq rfl (Ent.take_eq rfl ?_))
    refine Ent.trans (B := (x.q, DPers x.vs x.f x.kv s.met) :: (b, imm b (.cells (xs.map (Value.int .u8) ++ t).toArray 5 (0, 0))) :: (k, r) :: F) ?_ (Ent.join fun a1 b1 hd hp hi => hp.wrote hd ⟨b, t, by rw [hx.len], hi⟩)
    repeat' (first | with_reducible exact Ent.refl _ | with_reducible refine Ent.take_eq ?_ ?_ | rfl | with_reducible refine Ent.trans (Ent.drop _ _) ?_)
  repeat' (first | with_reducible (first | refine sw_op ?_ | refine sw_op_ ?_) | with_reducible (first | refine sw_nil ?_ | refine sq_then ?_ | refine sc_seq ?_ | refine sc_region ?_ | refine sw_guard_skip ?_ | refine sw_guard_skip_ ?_ | refine sw_guard_run ?_ | refine sc_cond_true ?_ | refine sc_cond_false ?_ | refine sc_ret ?_ | refine sq_then_ret ?_ | refine sc_skip ?_ | refine sc_block ?_ | refine sq_block ?_ | refine sq_block_ret ?_ | refine sc_exit ?_ | refine sq_then_exit ?_ | refine sq_block_exit ?_ | refine sq_block_past ?_ | refine sq_round_ret ?_ | refine sq_round_exit ?_) | (with_reducible refine sc_cond (fun h => ?_) (fun h => ?_)) <;> (try (exfalso; first | contradiction | omega | exact h Iff.rfl)) | fail)
  · refine DISK.sw (p := p) (s := s.wrote a xs) fun y hy => ?_
    unfold DISKl
    refine sw_ent (Ent.dup_take (k := y.q) (k' := y.q + 1) (r' := BoolsI y.kv s.keep) fun _ hp => hp.2.2.fp) ?_
    repeat' (first | with_reducible (first | refine sw_op ?_ | refine sw_op_ ?_) | with_reducible (first | refine sw_nil ?_ | refine sq_then ?_ | refine sc_seq ?_ | refine sc_region ?_ | refine sw_guard_skip ?_ | refine sw_guard_skip_ ?_ | refine sw_guard_run ?_ | refine sc_cond_true ?_ | refine sc_cond_false ?_ | refine sc_ret ?_ | refine sq_then_ret ?_ | refine sc_skip ?_ | refine sc_block ?_ | refine sq_block ?_ | refine sq_block_ret ?_ | refine sc_exit ?_ | refine sq_then_exit ?_ | refine sq_block_exit ?_ | refine sq_block_past ?_ | refine sq_round_ret ?_ | refine sq_round_exit ?_) | fail)
    refine sw_bools (y.q + 1) fun rr hrr => ?_
    refine sw_ent (Rs'' := (p, DISK p (s.wrote a xs)) :: (y.q + 1, rr) :: (k, r) :: F) ?_ ?_
    · refine Ent.trans (B := DISKl p (s.wrote a xs) y ((y.q + 1, rr) :: (k, r) :: F)) ?_ (DISK.close hy)
      unfold DISKl
      repeat' (first | with_reducible exact Ent.refl _ | with_reducible refine Ent.take_eq ?_ ?_ | rfl | with_reducible refine Ent.trans (Ent.drop _ _) ?_)
    have hkl : s.keep.length ≤ 9223372036854775807 := hy.wf.k1
    repeat' (first | with_reducible (first | refine sw_op ?_ | refine sw_op_ ?_) | ((with_reducible refine sw_call (dGoes_ok p (y.q + 1) (s.wrote a xs) rr y.kv s.keep hrr hkl) ?_); rintro _ _ ⟨ks, hks, rfl, rfl⟩) | with_reducible (first | refine sw_nil ?_ | refine sq_then ?_ | refine sc_seq ?_ | refine sc_region ?_ | refine sw_guard_skip ?_ | refine sw_guard_skip_ ?_ | refine sw_guard_run ?_ | refine sc_cond_true ?_ | refine sc_cond_false ?_ | refine sc_ret ?_ | refine sq_then_ret ?_ | refine sc_skip ?_ | refine sc_block ?_ | refine sq_block ?_ | refine sq_block_ret ?_ | refine sc_exit ?_ | refine sq_then_exit ?_ | refine sq_block_exit ?_ | refine sq_block_past ?_ | refine sq_round_ret ?_ | refine sq_round_exit ?_) | fail)
    refine sq_ret1 Try.results67 ?_
    refine ⟨_, .inr ⟨by assumption, rfl, ks, hks, rfl⟩, ?_⟩
    repeat' (first | with_reducible exact Ent.refl _ | with_reducible refine Ent.take_eq ?_ ?_ | rfl | with_reducible refine Ent.trans (Ent.drop _ _) ?_)
  · refine sq_ret1 Try.results67 ?_
    refine ⟨_, .inl ⟨by assumption, rfl, rfl⟩, ?_⟩
    repeat' (first | with_reducible exact Ent.refl _ | with_reducible refine Ent.take_eq ?_ ?_ | rfl | with_reducible refine Ent.trans (Ent.drop _ _) ?_)
end Go.Gsl
