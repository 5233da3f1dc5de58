/- The power goes. -/
import Derived.Test.YtbmdaiopnnmamaaDisk3
namespace Go.Gsl
set_option linter.unusedVariables false
open Go.Proofs

/-- what is dirty, in order -/
structure KeysD (g : Int → Option (List Int)) (ks : List Int) : Prop where
  nodup : ks.Nodup
  mem : ∀ i, i ∈ ks ↔ (g i).isSome = true
  le : ks.Pairwise (· ≤ ·)

/-- which of the dirty sectors stay: by their order -/
def goV (f : Int → Option Value) : List Int → List Bool → List Value → List Value
  | k :: ks, b :: bs, vs => goV f ks bs (if b = true then vs.set k.toNat ((f k).getD (.slice none 0 0)) else vs)
  | _, _, vs => vs
def goS (g : Int → Option (List Int)) : List Int → List Bool → List (List Int) → List (List Int)
  | k :: ks, b :: bs, ss => goS g ks bs (if b = true then ss.set k.toNat ((g k).getD []) else ss)
  | _, _, ss => ss

theorem goV_len (f : Int → Option Value) : ∀ (ks : List Int) (bs : List Bool) (vs : List Value), (goV f ks bs vs).length = vs.length
  | [], _, _ => rfl
  | _ :: _, [], _ => rfl
  | k :: ks, b :: bs, vs => by
    rw [goV, goV_len f ks bs]
    split <;> simp
theorem goS_len (g : Int → Option (List Int)) : ∀ (ks : List Int) (bs : List Bool) (ss : List (List Int)), (goS g ks bs ss).length = ss.length
  | [], _, _ => rfl
  | _ :: _, [], _ => rfl
  | k :: ks, b :: bs, ss => by
    rw [goS, goS_len g ks bs]
    split <;> simp
theorem goV_nil (f : Int → Option Value) (ks : List Int) (vs : List Value) : goV f ks [] vs = vs := by cases ks <;> rfl

theorem Secs.set {vs : List Value} {ss : List (List Int)} {h : Hp} {j : Nat} {v : Value} {xs : List Int} (hs : Secs vs ss h) (hv : Sec v xs h) : Secs (vs.set j v) (ss.set j xs) h := by
  intro i u ys hu hy
  rw [List.getElem?_set] at hu hy
  split at hu
  · rename_i e
    rw [if_pos e] at hy
    split at hu
    · split at hy
      · cases hu; cases hy; exact hv
      · cases hy
    · cases hu
  · rename_i e
    rw [if_neg e] at hy
    exact hs i u ys hu hy

theorem goV_secs {f : Int → Option Value} {g : Int → Option (List Int)} {h : Hp} (hd : DirtyS f g h) : ∀ (ks : List Int) (bs : List Bool) (vs : List Value) (ss : List (List Int)), (∀ k ∈ ks, (g k).isSome = true) → Secs vs ss h → Secs (goV f ks bs vs) (goS g ks bs ss) h
  | [], _, _, _, _, hs => hs
  | _ :: _, [], _, _, _, hs => hs
  | k :: ks, b :: bs, vs, ss, hk, hs => by
    rw [goV, goS]
    refine goV_secs hd ks bs _ _ (fun j hj => hk j (by simp [hj])) ?_
    cases b with
    | false => simpa using hs
    | true =>
      simp only [if_true]
      obtain ⟨xs, hx⟩ := Option.isSome_iff_exists.1 (hk k (by simp))
      obtain ⟨h1, h2⟩ := hd k
      rw [hx] at h1
      obtain ⟨v, hv⟩ := Option.isSome_iff_exists.1 h1
      rw [hv, hx]
      exact hs.set (h2 v xs hv hx)

/-- the power gone -/
def Dk.gone (s : Dk) (ks : List Int) (bs : List Bool) : Dk := { s with sure := goS s.dirty ks bs s.sure, dirty := fun _ => none, down := true, fuse := 0, keep := [] }

theorem goS_wf {g : Int → Option (List Int)} (hg : ∀ i xs, g i = some xs → SecWf xs) : ∀ (ks : List Int) (bs : List Bool) (ss : List (List Int)), (∀ k ∈ ks, (g k).isSome = true) → (∀ xs ∈ ss, SecWf xs) → ∀ xs ∈ goS g ks bs ss, SecWf xs
  | [], _, _, _, hs => hs
  | _ :: _, [], _, _, hs => hs
  | k :: ks, b :: bs, ss, hk, hs => by
    rw [goS]
    refine goS_wf hg ks bs _ (fun j hj => hk j (by simp [hj])) ?_
    cases b with
    | false => simpa using hs
    | true =>
      simp only [if_true]
      obtain ⟨xs, hx⟩ := Option.isSome_iff_exists.1 (hk k (by simp))
      rw [hx]
      intro ys hy
      rcases List.mem_or_eq_of_mem_set hy with h | h
      · exact hs ys h
      · rw [h]; exact hg k xs hx

theorem Dk.gone_wf {s : Dk} {ks : List Int} {bs : List Bool} (h : s.Wf) (hk : KeysD s.dirty ks) : (s.gone ks bs).Wf where
  n1 := by show 1 ≤ (goS s.dirty ks bs s.sure).length; rw [goS_len]; exact h.n1
  n2 := by show (goS s.dirty ks bs s.sure).length ≤ 16384; rw [goS_len]; exact h.n2
  sec := goS_wf h.dsec ks bs s.sure (fun k hk' => (hk.mem k).1 hk') h.sec
  dsec := fun i xs hx => by cases hx
  dat := fun i xs hx => by cases hx
  f1 := Int.le_refl _
  f2 := by show (0 : Int) ≤ _; decide
  k1 := by show ([] : List Bool).length ≤ _; decide

def DX.gone (x : DX) (ks : List Int) (bs : List Bool) : DX := { x with kv := .slice none 0 0, vs := goV x.f ks bs x.vs, f := mnil }
theorem DX.gone_ok {x : DX} {s : Dk} {ks : List Int} {bs : List Bool} (hx : x.Ok s) (hk : KeysD s.dirty ks) : (x.gone ks bs).Ok (s.gone ks bs) where
  wf := Dk.gone_wf hx.wf hk
  len := by show (goV x.f ks bs x.vs).length = (goS s.dirty ks bs s.sure).length; rw [goV_len, goS_len]; exact hx.len
  dom := fun j => rfl
  one := fun j v hv => by cases hv
theorem DPers.gone {x : DX} {s : Dk} {ks : List Int} {bs : List Bool} {h : Hp} (hk : KeysD s.dirty ks) (hp : DPers x.vs x.f x.kv s h) : DPers (x.gone ks bs).vs (x.gone ks bs).f (x.gone ks bs).kv (s.gone ks bs) h :=
  ⟨goV_secs hp.2.1 ks bs _ _ (fun k hk' => (hk.mem k).1 hk') hp.1, fun j => ⟨rfl, fun v xs hv => by cases hv⟩, .inl ⟨rfl, rfl⟩⟩
/-- closing it -/
theorem DISK.gone_close {p : Nat} {s : Dk} {x : DX} {ks : List Int} {bs : List Bool} {F : List Res} (hx : x.Ok s) (hk : KeysD s.dirty ks) :
    Ent ((p, pts p (drow x.bS (goV x.f ks bs x.vs).length ((goV x.f ks bs x.vs).length + x.r.length) x.m true s.calls 0 (.slice none 0 0))) :: (x.bS, pts x.bS (.cells (goV x.f ks bs x.vs ++ x.r).toArray 24 (0, 0))) :: (x.m, MapI .i64 x.m mnil) :: (x.q, DPers x.vs x.f x.kv s) :: F) ((p, DISK p (s.gone ks bs)) :: F) :=
  Ent.trans (Ent.cons _ (Ent.cons _ (Ent.cons _ (Ent.head fun _ hp => DPers.gone hk hp)))) (DISK.close (x := x.gone ks bs) (DX.gone_ok hx hk))

/-- bools that can be read -/
def RdBools (r : HProp) (v : Value) (bs : List Bool) : Prop := ∃ a c, v = .slice a bs.length c ∧ (0 < bs.length → ∃ b o, a = some ⟨b, o, none⟩) ∧ Reads r a (bs.map Value.bool)

set_option maxHeartbeats 400000 in
theorem dGoes_ok (p k : Nat) (s : Dk) (r : HProp) (kv : Value) (bs : List Bool) (hr : RdBools r kv bs) (hb : bs.length ≤ 9223372036854775807) : Spec Try.prog 84 [.pointer (some ⟨p, 0, none⟩), kv] [p, k] [DISK p s, r]
    fun F v Rs' => ∃ ks, KeysD s.dirty ks ∧ v = .tuple #[] ∧ Rs' = (p, DISK p (s.gone ks bs)) :: (k, r) :: F := by
  obtain ⟨a, c, rfl, ha, hr⟩ := hr
  refine spec_of Try.func84 rfl Try.ntmps84 rfl ?_
  intro w0 F
  refine DISK.sc (p := p) (s := s) fun x hx => ?_
  unfold DISKl
  have hdom : ∀ i, (x.f i).isSome = true → 0 ≤ i ∧ i < 16384 := fun i hi => by
    rw [hx.dom i] at hi
    obtain ⟨xs, hxs⟩ := Option.isSome_iff_exists.1 hi
    have h1 := hx.wf.dat i xs hxs
    have h2 := hx.wf.n2
    omega
  repeat' (first | with_reducible (first | refine sw_op ?_ | refine sw_op_ ?_) | with_reducible (first | refine sw_nil ?_ | refine sq_then ?_ | refine sc_seq ?_ | refine sc_region ?_ | refine sw_guard_skip ?_ | refine sw_guard_skip_ ?_ | refine sw_guard_run ?_ | refine sc_cond_true ?_ | refine sc_cond_false ?_ | refine sc_ret ?_ | refine sq_then_ret ?_ | refine sc_skip ?_ | refine sc_block ?_ | refine sq_block ?_ | refine sq_block_ret ?_ | refine sc_exit ?_ | refine sq_then_exit ?_ | refine sq_block_exit ?_ | refine sq_block_past ?_ | refine sq_round_ret ?_ | refine sq_round_exit ?_) | fail)
  refine sw_call (dWritten_ok p x.bS x.vs.length (x.vs.length + x.r.length) x.m s.down s.calls s.fuse x.kv x.f hdom) ?_
  rintro _ _ ⟨ks, hK, h⟩
  have hKD : KeysD s.dirty ks := ⟨hK.nodup, fun i => by rw [hK.mem i, hx.dom i], hK.le⟩
  have hkb := ints_bound hK.nodup fun j hj => hdom j ((hK.mem j).1 hj)
  rcases h with ⟨rfl, rfl, rfl⟩ | ⟨b, r2, rfl, rfl⟩
  · repeat' (first | with_reducible (first | refine sw_op ?_ | refine sw_op_ ?_) | with_reducible (first | refine sw_nil ?_ | refine sq_then ?_ | refine sc_seq ?_ | refine sc_region ?_ | refine sw_guard_skip ?_ | refine sw_guard_skip_ ?_ | refine sw_guard_run ?_ | refine sc_cond_true ?_ | refine sc_cond_false ?_ | refine sc_ret ?_ | refine sq_then_ret ?_ | refine sc_skip ?_ | refine sc_block ?_ | refine sq_block ?_ | refine sq_block_ret ?_ | refine sc_exit ?_ | refine sq_then_exit ?_ | refine sq_block_exit ?_ | refine sq_block_past ?_ | refine sq_round_ret ?_ | refine sq_round_exit ?_) | fail)
    refine sc_loop (α := Unit) (fun _ => [(0, .pointer (some ⟨p, 0, none⟩)), (8, .int .i64 0), (9, .int .i64 0)])
      (fun _ => (p, pts p (drow x.bS x.vs.length (x.vs.length + x.r.length) x.m s.down s.calls s.fuse x.kv)) :: (x.m, MapI .i64 x.m x.f) :: (x.bS, pts x.bS (.cells (x.vs ++ x.r).toArray 24 (0, 0))) :: (x.q, DPers x.vs x.f x.kv s) :: (k, r) :: F)
      (fun _ => 0) () ?_ ?_ ?_
    · exact says_cons rfl (says_cons rfl (says_cons rfl says_nil))
    · repeat' (first | with_reducible exact Ent.refl _ | with_reducible refine Ent.take_eq ?_ ?_ | rfl | with_reducible refine Ent.trans (Ent.drop _ _) ?_)
    · rintro ⟨⟩ e
      simp only [List.cons_append, List.nil_append]
      repeat' (first | with_reducible (first | refine sw_in (by omega) ?_ | refine sw_op ?_ | refine sw_op_ ?_) | with_reducible refine sw_store ?_ | with_reducible refine sw_clear ?_ | with_reducible (first | refine sw_nil ?_ | refine sq_then ?_ | refine sc_seq ?_ | refine sc_region ?_ | refine sw_guard_skip ?_ | refine sw_guard_skip_ ?_ | refine sw_guard_run ?_ | refine sc_cond_true ?_ | refine sc_cond_false ?_ | refine sc_ret ?_ | refine sq_then_ret ?_ | refine sc_skip ?_ | refine sc_block ?_ | refine sq_block ?_ | refine sq_block_ret ?_ | refine sc_exit ?_ | refine sq_then_exit ?_ | refine sq_block_exit ?_ | refine sq_block_past ?_ | refine sq_round_ret ?_ | refine sq_round_exit ?_) | (with_reducible refine sc_cond (fun h => ?_) (fun h => ?_)) <;> (try (exfalso; first | contradiction | omega | exact h Iff.rfl)) | fail)
      refine sq_end0 Try.results84 ?_
      refine ⟨_, ⟨[], hKD, rfl, rfl⟩, Ent.trans ?_ (DISK.gone_close hx hKD)⟩
      simp only [goV]
      repeat' (first | with_reducible exact Ent.refl _ | with_reducible refine Ent.take_eq ?_ ?_ | rfl | with_reducible refine Ent.trans (Ent.drop _ _) ?_)
  · repeat' (first | with_reducible (first | refine sw_op ?_ | refine sw_op_ ?_) | with_reducible (first | refine sw_nil ?_ | refine sq_then ?_ | refine sc_seq ?_ | refine sc_region ?_ | refine sw_guard_skip ?_ | refine sw_guard_skip_ ?_ | refine sw_guard_run ?_ | refine sc_cond_true ?_ | refine sc_cond_false ?_ | refine sc_ret ?_ | refine sq_then_ret ?_ | refine sc_skip ?_ | refine sc_block ?_ | refine sq_block ?_ | refine sq_block_ret ?_ | refine sc_exit ?_ | refine sq_then_exit ?_ | refine sq_block_exit ?_ | refine sq_block_past ?_ | refine sq_round_ret ?_ | refine sq_round_exit ?_) | fail)
    refine sc_loop (α := { y : Nat × List Value // y.1 ≤ ks.length ∧ goV x.f (ks.drop y.1) (bs.drop y.1) y.2 = goV x.f ks bs x.vs ∧ y.2.length = x.vs.length })
      (fun y => [(0, .pointer (some ⟨p, 0, none⟩)), (1, .slice a bs.length c), (7, .slice (some ⟨b, 0, none⟩) ks.length (ks.length + r2.length)), (8, .int .i64 ks.length), (9, .int .i64 y.1.1)])
      (fun y => (b, pts b (.cells (ks.map (Value.int .i64) ++ r2).toArray 3 (0, 0))) :: (p, pts p (drow x.bS x.vs.length (x.vs.length + x.r.length) x.m s.down s.calls s.fuse x.kv)) :: (x.m, MapI .i64 x.m x.f) :: (x.bS, pts x.bS (.cells (y.1.2 ++ x.r).toArray 24 (0, 0))) :: (x.q, DPers x.vs x.f x.kv s) :: (k, r) :: F)
      (fun y => ks.length - y.1.1) ⟨(0, x.vs), Nat.zero_le _, by simp, rfl⟩ ?_ ?_ ?_
    · exact says_cons rfl (says_cons rfl (says_cons rfl (says_cons rfl (says_cons rfl says_nil))))
    · repeat' (first | with_reducible exact Ent.refl _ | with_reducible refine Ent.take_eq ?_ ?_ | rfl | with_reducible refine Ent.trans (Ent.drop _ _) ?_)
    · rintro ⟨⟨i, vs⟩, hi, hgo, hvl⟩ e
      simp only at hi hgo hvl
      simp only [List.cons_append, List.nil_append]
      repeat' (first | with_reducible (first | refine sw_op ?_ | refine sw_op_ ?_) | with_reducible (first | refine sw_nil ?_ | refine sq_then ?_ | refine sc_seq ?_ | refine sc_region ?_ | refine sw_guard_skip ?_ | refine sw_guard_skip_ ?_ | refine sw_guard_run ?_ | refine sc_cond_true ?_ | refine sc_cond_false ?_ | refine sc_ret ?_ | refine sq_then_ret ?_ | refine sc_skip ?_ | refine sc_block ?_ | refine sq_block ?_ | refine sq_block_ret ?_ | refine sc_exit ?_ | refine sq_then_exit ?_ | refine sq_block_exit ?_ | refine sq_block_past ?_ | refine sq_round_ret ?_ | refine sq_round_exit ?_) | (with_reducible refine sc_cond (fun h => ?_) (fun h => ?_)) <;> (try (exfalso; first | contradiction | omega | exact h Iff.rfl)) | fail)
      · have hlt : i < ks.length := by omega
        refine sw_idx i (by omega) ?_
        refine sw_loadAt (.int .i64 ks[i]) (by rw [List.getElem?_append_left (by simpa using hlt)]; simp [hlt]) ?_
        have hmem : (x.f ks[i]).isSome = true := (hK.mem _).1 (List.getElem_mem _)
        obtain ⟨fv, hfv⟩ := Option.isSome_iff_exists.1 hmem
        have hk0 := hdom _ hmem
        have hk1 : ks[i].toNat < x.vs.length := by
          rw [hx.dom] at hmem
          obtain ⟨xs, hxs⟩ := Option.isSome_iff_exists.1 hmem
          have h1 := hx.wf.dat _ xs hxs
          rw [hx.len]; omega
        haveI : One ((x.f ks[i]).getD (.slice none 0 0)) := ⟨by rw [hfv]; exact hx.one _ _ hfv⟩
        have hdk : ks.drop i = ks[i] :: ks.drop (i + 1) := List.drop_eq_getElem_cons hlt
        repeat' (first | with_reducible (first | refine sw_in (by omega) ?_ | refine sw_op ?_ | refine sw_op_ ?_) | with_reducible (first | refine sw_nil ?_ | refine sq_then ?_ | refine sc_seq ?_ | refine sc_region ?_ | refine sw_guard_skip ?_ | refine sw_guard_skip_ ?_ | refine sw_guard_run ?_ | refine sc_cond_true ?_ | refine sc_cond_false ?_ | refine sc_ret ?_ | refine sq_then_ret ?_ | refine sc_skip ?_ | refine sc_block ?_ | refine sq_block ?_ | refine sq_block_ret ?_ | refine sc_exit ?_ | refine sq_then_exit ?_ | refine sq_block_exit ?_ | refine sq_block_past ?_ | refine sq_round_ret ?_ | refine sq_round_exit ?_) | (with_reducible refine sc_cond (fun h => ?_) (fun h => ?_)) <;> (try (exfalso; first | contradiction | omega | exact h Iff.rfl)) | (with_reducible refine sw_guard_split (fun h => ?_) (fun h => ?_)) <;> (try (exfalso; first | contradiction | omega | exact h Iff.rfl)) | (with_reducible refine sw_pick (fun h => ?_) (fun h => ?_)) <;> (try (exfalso; first | contradiction | omega | exact h Iff.rfl)) | fail)
        · have hib : i < bs.length := by omega
          obtain ⟨ab, ao, rfl⟩ := ha (by omega)
          have hdb : bs.drop i = bs[i] :: bs.drop (i + 1) := List.drop_eq_getElem_cons hib
          refine sw_index (by omega) ?_
          have hbv : (bs.map Value.bool)[i]? = some (.bool bs[i]) := by rw [List.getElem?_map, List.getElem?_eq_getElem hib]; rfl
          have hoff : ao + (i : Int).toNat * 1 = ao + i := by omega
          repeat' (first | with_reducible (first | refine sw_op ?_ | refine sw_op_ ?_) | with_reducible (first | refine sw_nil ?_ | refine sq_then ?_ | refine sc_seq ?_ | refine sc_region ?_ | refine sw_guard_skip ?_ | refine sw_guard_skip_ ?_ | refine sw_guard_run ?_ | refine sc_cond_true ?_ | refine sc_cond_false ?_ | refine sc_ret ?_ | refine sq_then_ret ?_ | refine sc_skip ?_ | refine sc_block ?_ | refine sq_block ?_ | refine sq_block_ret ?_ | refine sc_exit ?_ | refine sq_then_exit ?_ | refine sq_block_exit ?_ | refine sq_block_past ?_ | refine sq_round_ret ?_ | refine sq_round_exit ?_) | fail)
          refine sw_load_rd k i (.bool bs[i]) hr hbv hoff ?_
          repeat' (first | with_reducible (first | refine sw_in (by omega) ?_ | refine sw_op ?_ | refine sw_op_ ?_) | with_reducible (first | refine sw_nil ?_ | refine sq_then ?_ | refine sc_seq ?_ | refine sc_region ?_ | refine sw_guard_skip ?_ | refine sw_guard_skip_ ?_ | refine sw_guard_run ?_ | refine sc_cond_true ?_ | refine sc_cond_false ?_ | refine sc_ret ?_ | refine sq_then_ret ?_ | refine sc_skip ?_ | refine sc_block ?_ | refine sq_block ?_ | refine sq_block_ret ?_ | refine sc_exit ?_ | refine sq_then_exit ?_ | refine sq_block_exit ?_ | refine sq_block_past ?_ | refine sq_round_ret ?_ | refine sq_round_exit ?_) | (with_reducible refine sc_cond (fun h => ?_) (fun h => ?_)) <;> (try (exfalso; first | contradiction | omega | exact h Iff.rfl)) | (with_reducible refine sw_guard_split (fun h => ?_) (fun h => ?_)) <;> (try (exfalso; first | contradiction | omega | exact h Iff.rfl)) | (with_reducible refine sw_pick (fun h => ?_) (fun h => ?_)) <;> (try (exfalso; first | contradiction | omega | exact h Iff.rfl)) | fail)
          · refine sc_drawC (m := 13) ([(p, pts p (drow x.bS x.vs.length (x.vs.length + x.r.length) x.m s.down s.calls s.fuse x.kv)), (x.m, MapI .i64 x.m x.f)]) (by repeat' (first | with_reducible exact calm_post | with_reducible refine Calm.then ?_ | with_reducible refine Calm.block ?_ | with_reducible refine Calm.round ?_ | with_reducible refine Calm.mark ?_)) (by kernel_rfl) rfl (fun hcalm => ?_)
            all_goals (first | refine sg_take 0 hcalm rfl (by kernel_rfl) (by kernel_rfl) (by kernel_rfl) ?_)
            all_goals (first | refine sg_take 1 hcalm rfl (by kernel_rfl) (by kernel_rfl) (by kernel_rfl) ?_)
            all_goals (first | refine sg_take 2 hcalm rfl (by kernel_rfl) (by kernel_rfl) (by kernel_rfl) ?_)
            all_goals (first | refine sg_take 3 hcalm rfl (by kernel_rfl) (by kernel_rfl) (by kernel_rfl) ?_)
            all_goals (first | refine sg_take 4 hcalm rfl (by kernel_rfl) (by kernel_rfl) (by kernel_rfl) ?_)
            all_goals (first | refine sg_take 5 hcalm rfl (by kernel_rfl) (by kernel_rfl) (by kernel_rfl) ?_)
            all_goals (first | refine sg_take 6 hcalm rfl (by kernel_rfl) (by kernel_rfl) (by kernel_rfl) ?_)
            all_goals (first | refine sg_take 7 hcalm rfl (by kernel_rfl) (by kernel_rfl) (by kernel_rfl) ?_)
            all_goals (first | refine sg_take 8 hcalm rfl (by kernel_rfl) (by kernel_rfl) (by kernel_rfl) ?_)
            all_goals (first | refine sg_take 9 hcalm rfl (by kernel_rfl) (by kernel_rfl) (by kernel_rfl) ?_)
            all_goals (first | refine sg_take 10 hcalm rfl (by kernel_rfl) (by kernel_rfl) (by kernel_rfl) ?_)
            all_goals (first | refine sg_take 11 hcalm rfl (by kernel_rfl) (by kernel_rfl) (by kernel_rfl) (h := runop_idx ks[i].toNat (by omega)) ?_ | refine sg_take 11 hcalm rfl (by kernel_rfl) (by kernel_rfl) (by kernel_rfl) ?_)
            all_goals (refine sg_one 12 rfl (by kernel_rfl) rfl ?_)
            all_goals (repeat' (first | with_reducible (first | refine sw_op ?_ | refine sw_op_ ?_) | with_reducible refine sw_storeAt (by rw [List.length_append]; omega) ?_ | with_reducible refine sg_back ?_ | with_reducible (first | refine sw_nil ?_ | refine sq_then ?_ | refine sc_seq ?_ | refine sc_region ?_ | refine sw_guard_skip ?_ | refine sw_guard_skip_ ?_ | refine sw_guard_run ?_ | refine sc_cond_true ?_ | refine sc_cond_false ?_ | refine sc_ret ?_ | refine sq_then_ret ?_ | refine sc_skip ?_ | refine sc_block ?_ | refine sq_block ?_ | refine sq_block_ret ?_ | refine sc_exit ?_ | refine sq_then_exit ?_ | refine sq_block_exit ?_ | refine sq_block_past ?_ | refine sq_round_ret ?_ | refine sq_round_exit ?_) | fail))
            all_goals (refine sg_done (by kernel_rfl) rfl ?_)
            repeat' (first | with_reducible (first | refine sw_in (by omega) ?_ | refine sw_op ?_ | refine sw_op_ ?_) | with_reducible (first | refine sw_nil ?_ | refine sq_then ?_ | refine sc_seq ?_ | refine sc_region ?_ | refine sw_guard_skip ?_ | refine sw_guard_skip_ ?_ | refine sw_guard_run ?_ | refine sc_cond_true ?_ | refine sc_cond_false ?_ | refine sc_ret ?_ | refine sq_then_ret ?_ | refine sc_skip ?_ | refine sc_block ?_ | refine sq_block ?_ | refine sq_block_ret ?_ | refine sc_exit ?_ | refine sq_then_exit ?_ | refine sq_block_exit ?_ | refine sq_block_past ?_ | refine sq_round_ret ?_ | refine sq_round_exit ?_) | fail)
            have e3 : (vs ++ x.r).set ks[i].toNat ((x.f ks[i]).getD (.slice none 0 0)) = vs.set ks[i].toNat ((x.f ks[i]).getD (.slice none 0 0)) ++ x.r := List.set_append_left _ _ (by omega)
            rw [e3]
            refine sq_round ⟨(i + 1, vs.set ks[i].toNat ((x.f ks[i]).getD (.slice none 0 0))), hlt, ?_, ?_⟩ ?_ ?_ ?_
            · show goV x.f (ks.drop (i + 1)) (bs.drop (i + 1)) (vs.set ks[i].toNat ((x.f ks[i]).getD (.slice none 0 0))) = _
              rw [← hgo, hdk, hdb, goV, if_pos h]
            · rw [List.length_set]; exact hvl
            · show ks.length - (i + 1) < ks.length - i
              omega
            · exact says_cons rfl (says_cons rfl (says_cons rfl (says_cons rfl (says_cons rfl says_nil))))
            · repeat' (first | with_reducible exact Ent.refl _ | with_reducible refine Ent.take_eq ?_ ?_ | rfl | with_reducible refine Ent.trans (Ent.drop _ _) ?_)
          · refine sq_round ⟨(i + 1, vs), hlt, ?_, ?_⟩ ?_ ?_ ?_
            · show goV x.f (ks.drop (i + 1)) (bs.drop (i + 1)) (vs) = _
              rw [← hgo, hdk, hdb, goV, if_neg h]
            · exact hvl
            · show ks.length - (i + 1) < ks.length - i
              omega
            · exact says_cons rfl (says_cons rfl (says_cons rfl (says_cons rfl (says_cons rfl says_nil))))
            · repeat' (first | with_reducible exact Ent.refl _ | with_reducible refine Ent.take_eq ?_ ?_ | rfl | with_reducible refine Ent.trans (Ent.drop _ _) ?_)
        · refine sq_round ⟨(i + 1, vs), hlt, ?_, ?_⟩ ?_ ?_ ?_
          · show goV x.f (ks.drop (i + 1)) (bs.drop (i + 1)) (vs) = _
            rw [← hgo, List.drop_eq_nil_of_le (show bs.length ≤ i + 1 by omega), List.drop_eq_nil_of_le (show bs.length ≤ i by omega), goV_nil, goV_nil]
          · exact hvl
          · show ks.length - (i + 1) < ks.length - i
            omega
          · exact says_cons rfl (says_cons rfl (says_cons rfl (says_cons rfl (says_cons rfl says_nil))))
          · repeat' (first | with_reducible exact Ent.refl _ | with_reducible refine Ent.take_eq ?_ ?_ | rfl | with_reducible refine Ent.trans (Ent.drop _ _) ?_)
      · have hin : i = ks.length := by omega
        subst hin
        rw [List.drop_length] at hgo
        have hvs : vs = goV x.f ks bs x.vs := hgo
        repeat' (first | with_reducible (first | refine sw_in (by omega) ?_ | refine sw_op ?_ | refine sw_op_ ?_) | with_reducible refine sw_store ?_ | with_reducible refine sw_clear ?_ | with_reducible (first | refine sw_nil ?_ | refine sq_then ?_ | refine sc_seq ?_ | refine sc_region ?_ | refine sw_guard_skip ?_ | refine sw_guard_skip_ ?_ | refine sw_guard_run ?_ | refine sc_cond_true ?_ | refine sc_cond_false ?_ | refine sc_ret ?_ | refine sq_then_ret ?_ | refine sc_skip ?_ | refine sc_block ?_ | refine sq_block ?_ | refine sq_block_ret ?_ | refine sc_exit ?_ | refine sq_then_exit ?_ | refine sq_block_exit ?_ | refine sq_block_past ?_ | refine sq_round_ret ?_ | refine sq_round_exit ?_) | fail)
        refine sq_end0 Try.results84 ?_
        refine ⟨_, ⟨ks, hKD, rfl, rfl⟩, Ent.trans ?_ (DISK.gone_close hx hKD)⟩
        rw [goV_len, hvs]
        repeat' (first | with_reducible exact Ent.refl _ | with_reducible refine Ent.take_eq ?_ ?_ | rfl | with_reducible refine Ent.trans (Ent.drop _ _) ?_)
end Go.Gsl
