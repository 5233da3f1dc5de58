/- The log: memory is nobody else's. -/
import Derived.Test.YtbmdaiopnnmamaaGX
import Derived.Test.YtbmdaiopnnmamaaMstSQ
namespace Go.Gsl
set_option linter.unusedVariables false
open Go.Proofs Go.RowKit Go.ChangeShapes Go.WideShapes
set_option maxHeartbeats 4000000
theorem OwnB.rdb {v : Value} {bs : List Int} {h : Hp} (ho : OwnB v bs h) : RdB (OwnB v bs) v bs := by
  rcases ho with ⟨h1, h2⟩ | ⟨b, t, h1, _⟩
  · rw [h1, h2]; exact .nil
  · rw [h1]
    refine .row b 0 _ _ (Nat.le_add_right _ _) fun h' w hh hf j u hj => ?_
    rcases hh with ⟨h2, _⟩ | ⟨b', t', h2, hi⟩
    · cases h2
    · simp only [Value.slice.injEq, Option.some.injEq, Addr.mk.injEq] at h2
      obtain ⟨⟨rfl, _⟩, _, _⟩ := h2
      refine ⟨_, rfl, cell_row (hf _ _ _ hi.1) ?_⟩
      rw [Nat.zero_add, List.getElem?_append_left (List.getElem?_eq_some_iff.1 hj).1]
      exact hj
theorem bClone_bx (k : Nat) (r : HProp) (v : Value) (bs : List Int) (hv : RdBx r v bs) (hl : bs.length ≤ 140737488355328) :
    Spec Try.prog 33 [v] [k] [r] fun F w Rs' => ∃ a c, w = .slice a bs.length c ∧ Rs' = (7006, OwnB w bs) :: (k, r) :: F := by
  obtain ⟨a, c, rfl, hc, hs, hr⟩ := hv
  refine spec_of Try.func33 rfl Try.ntmps33 rfl ?_
  intro w0 F
  repeat' (first | with_reducible (first | refine go1 ?_ | refine sct ?_ | refine scf ?_ | refine sgr ?_) | (with_reducible refine sc_cond (fun h => ?_) (fun h => ?_)) <;> (try (exfalso; first | contradiction | omega | exact h Iff.rfl)) | fail)
  · have ha : a = none := by simpa using h
    have hb : bs = [] := by
      rcases Nat.eq_zero_or_pos bs.length with h | h
      · exact List.eq_nil_of_length_eq_zero h
      · obtain ⟨b, o, h2⟩ := hs h
        rw [ha] at h2
        cases h2
    subst hb
    refine sq_ret1 Try.results33 ?_
    refine ⟨_, ⟨none, 0, rfl, rfl⟩, ?_⟩
    intro h hh
    exact ⟨fun _ => none, h, fun _ => .inl rfl, by funext i; simp [hjoin], .inl ⟨rfl, rfl⟩, hh⟩
  · refine sw_buildSlice [] (by omega) rfl fun b0 => ?_
    repeat' (first | with_reducible (first | refine go1 ?_ | refine sct ?_ | refine scf ?_ | refine sgr ?_) | fail)
    refine sw_append (src := bs.map (Value.int .u8)) ?_ (one_ints _ _) ?_ fun b t => ?_
    · exact fun w hw => hr.sat (k := k) hw
    · exact ⟨by omega, rfl, by rw [List.length_map], by omega, by omega⟩
    simp only [Nat.zero_add, List.take_nil, List.nil_append, List.length_map]
    repeat' (first | with_reducible (first | refine go1 ?_ | refine sct ?_ | refine scf ?_ | refine sgr ?_) | fail)
    refine sq_ret1 Try.results33 ?_
    refine ⟨_, ⟨_, _, rfl, rfl⟩, Ent.head fun h hh => .inr ⟨b, t, rfl, hh⟩⟩
theorem sw_rekey {P : Program} {ops l : List Oper} {Q : Cont} {n : Nat} {w0 : World} {e : Env} {k : Nat} {r : HProp} {F : List Res} (k' : Nat) (q : SW P ops Q n w0 l e ((k', r) :: F)) : SW P ops Q n w0 l e ((k, r) :: F) := fun w hw => q w hw
theorem Ent.rekey {k : Nat} {r r' : HProp} {F : List Res} (k' : Nat) (h : ∀ x, r x → r' x) : Ent ((k, r) :: F) ((k', r') :: F) := Ent.head (k := k) h
theorem OwnB.shape {v : Value} {bs : List Int} {h : Hp} (ho : OwnB v bs h) : ∃ y : Option Addr × Nat, v = .slice y.1 bs.length y.2 ∧ OwnB v bs h := by
  rcases id ho with ⟨h1, h2⟩ | ⟨b, t, h1, _⟩
  · exact ⟨(none, 0), by rw [h1, h2]; rfl, ho⟩
  · exact ⟨(some ⟨b, 0, none⟩, bs.length + t.length), h1, ho⟩
/-- an element of a row of one's own is counted up -/
theorem OwnB.at {v : Value} {xs : List Int} {h : Hp} (ho : OwnB v xs h) (hp : 0 < xs.length) : ∃ x : Nat × List Value, v = .slice (some ⟨x.1, 0, none⟩) xs.length (xs.length + x.2.length) ∧ pts x.1 (.cells (xs.map (Value.int .u8) ++ x.2).toArray 5 (0, 0)) h := by
  rcases ho with ⟨_, h2⟩ | ⟨b, t, h1, h2⟩
  · rw [h2] at hp; simp at hp
  · exact ⟨(b, t), h1, h2⟩
theorem sc_endc {P : Program} {n : Nat} {w0 : World} {e : Env} {Rs F : List Res} {fn : Func} {R : Value → List Res → Prop} {t b : Nat} {ty ty' : TypeId} {v : Value} {fr : Nat × Nat} (hr : fn.results = #[.cell t ty]) [Lk e t (.pointer (some ⟨b, 0, none⟩))] [Lt t n] [NonAgg P ty] [ht : Take Rs b (pts b (.cells [v].toArray ty' fr)) F] (h : ∃ Rs', R v Rs' ∧ Ent Rs Rs') :
    SQ (Post P fn w0 R) n w0 .normal e Rs := by
  obtain ⟨Rs', h1, h2⟩ := h
  intro w hw
  exact ⟨fun _ h => (by cases h), v, results_runc hr (cell_of (hw.get ht) (by simp)), v, Rs', rfl, h1, hw.ent h2⟩
theorem Lg.app_fresh {pd : Nat} {bs : List Int} {e : Int} {L' : Lg} {n : Int} (h : (Lg.fresh pd 1 5).app bs = (n, e, L')) : e = 3 ∨ e = 5 ∨ (e = 0 ∧ L'.l = [(0, bs)] ∧ L'.first.number = 0) := by
  unfold Lg.app at h
  split at h
  · cases h; exact .inl rfl
  split at h
  · cases h; exact .inr (.inl rfl)
  · cases h; exact .inr (.inr ⟨rfl, rfl, rfl⟩)
set_option maxRecDepth 4000 in
theorem l17Own_ok (W : World) (v : Value) (bs : List Int) (hv : RdBx (ro W) v bs) (hb : Byt bs) (hbl : bs.length ≤ 140737488355328) :
    Spec Try.prog 8 [v] [0] [ro W] fun F w Rs' => w = .bool true ∧ ∃ G, Rs' = (0, ro W) :: G := by
  obtain ⟨a0, c0, rfl, _, _, _⟩ := id hv
  refine spec_of Try.func8 rfl Try.ntmps8 rfl ?_
  intro w0 F
  repeat' (first | with_reducible (first | refine go1 ?_ | refine sct ?_ | refine scf ?_ | refine sgr ?_) | fail)
  refine sw_box fun b1 => ?_
  refine sw_alloc fun b2 => ?_
  repeat' (first | with_reducible (first | refine go1 ?_ | refine sct ?_ | refine scf ?_ | refine sgr ?_) | ((with_reducible refine sw_call dNew_6 ?_); rintro _ _ ⟨pd, rfl, rfl⟩) | ((with_reducible refine sw_call live_ok ?_); rintro _ _ ⟨rfl, rfl⟩) | (with_reducible refine sc_cond (fun h => ?_) (fun h => ?_)) <;> (try (exfalso; first | contradiction | omega | exact h Iff.rfl)) | (with_reducible refine sw_guard_split (fun h => ?_) (fun h => ?_)) <;> (try (exfalso; first | contradiction | omega | exact h Iff.rfl)) | (with_reducible refine sw_pick (fun h => ?_) (fun h => ?_)) <;> (try (exfalso; first | contradiction | omega | exact h Iff.rfl)) | fail)
  refine sw_build (Mk.cs ⟨0, 0, 0, 0⟩) (by kernel_rfl) ?_
  repeat' (first | with_reducible (first | refine go1 ?_ | refine sct ?_ | refine scf ?_ | refine sgr ?_) | ((with_reducible refine sw_call (wOpen_new pd 6 (by omega)) ?_); rintro _ _ ⟨p, rfl, rfl⟩) | (with_reducible refine sc_cond (fun h => ?_) (fun h => ?_)) <;> (try (exfalso; first | contradiction | omega | exact h Iff.rfl)) | (with_reducible refine sw_guard_split (fun h => ?_) (fun h => ?_)) <;> (try (exfalso; first | contradiction | omega | exact h Iff.rfl)) | (with_reducible refine sw_pick (fun h => ?_) (fun h => ?_)) <;> (try (exfalso; first | contradiction | omega | exact h Iff.rfl)) | fail)
  refine sw_call (bClone_bx 0 (ro W) _ bs hv (by omega)) ?_
  rintro _ _ ⟨a, c, rfl, rfl⟩
  repeat' (first | with_reducible (first | refine go1 ?_ | refine sct ?_ | refine scf ?_ | refine sgr ?_) | fail)
  have hW := app_wf (pd := pd) (f := 1) (n := 5) (by omega)
  refine sw_opn (k := 7006) (r := OwnB (.slice a bs.length c) bs) (α := Unit) (fun _ => RdB (OwnB (.slice a bs.length c) bs) (.slice a bs.length c) bs) (fun _ => OwnB (.slice a bs.length c) bs) (fun x hx => ⟨(), hx.rdb, hx⟩) fun _ hrd => ?_
  have happ := wAppend_ok p (Lg.fresh pd 1 5) hW 7006 _ _ bs hrd hb hbl
  have hW1 := Lg.app_wf hW hb
  obtain ⟨⟨n, e, L1⟩, hL1⟩ : ∃ x, (Lg.fresh pd 1 5).app bs = x := ⟨_, rfl⟩
  rw [hL1] at happ hW1
  simp only at happ hW1
  refine sw_call happ ?_
  rintro _ _ ⟨rfl, rfl⟩
  clear happ
  repeat' (first | with_reducible (first | refine go1 ?_ | refine sct ?_ | refine scf ?_ | refine sgr ?_) | fail)
  rcases Lg.app_fresh hL1 with rfl | rfl | ⟨rfl, hl1, hn1⟩
  · repeat' (first | with_reducible (first | refine go1 ?_ | refine sct ?_ | refine scf ?_ | refine sgr ?_) | with_reducible refine sw_store ?_ | (with_reducible refine sc_cond (fun h => ?_) (fun h => ?_)) <;> (try (exfalso; first | contradiction | omega | exact h Iff.rfl)) | (with_reducible refine sw_guard_split (fun h => ?_) (fun h => ?_)) <;> (try (exfalso; first | contradiction | omega | exact h Iff.rfl)) | (with_reducible refine sw_pick (fun h => ?_) (fun h => ?_)) <;> (try (exfalso; first | contradiction | omega | exact h Iff.rfl)) | fail)
    refine sq_retc Try.results8 ?_
    refine ⟨_, ⟨by simp, F, rfl⟩, ?_⟩
    repeat' (first | with_reducible exact Ent.refl _ | with_reducible refine Ent.take_eq ?_ ?_ | rfl | with_reducible refine Ent.oR ?_ | with_reducible refine Ent.trans (Ent.drop _ _) ?_)
  · repeat' (first | with_reducible (first | refine go1 ?_ | refine sct ?_ | refine scf ?_ | refine sgr ?_) | with_reducible refine sw_store ?_ | (with_reducible refine sc_cond (fun h => ?_) (fun h => ?_)) <;> (try (exfalso; first | contradiction | omega | exact h Iff.rfl)) | (with_reducible refine sw_guard_split (fun h => ?_) (fun h => ?_)) <;> (try (exfalso; first | contradiction | omega | exact h Iff.rfl)) | (with_reducible refine sw_pick (fun h => ?_) (fun h => ?_)) <;> (try (exfalso; first | contradiction | omega | exact h Iff.rfl)) | fail)
    refine sq_retc Try.results8 ?_
    refine ⟨_, ⟨by simp, F, rfl⟩, ?_⟩
    repeat' (first | with_reducible exact Ent.refl _ | with_reducible refine Ent.take_eq ?_ ?_ | rfl | with_reducible refine Ent.oR ?_ | with_reducible refine Ent.trans (Ent.drop _ _) ?_)
  repeat' (first | with_reducible (first | refine go1 ?_ | refine sct ?_ | refine scf ?_ | refine sgr ?_) | with_reducible refine sw_store ?_ | (with_reducible refine sc_cond (fun h => ?_) (fun h => ?_)) <;> (try (exfalso; first | contradiction | omega | exact h Iff.rfl)) | (with_reducible refine sw_guard_split (fun h => ?_) (fun h => ?_)) <;> (try (exfalso; first | contradiction | omega | exact h Iff.rfl)) | (with_reducible refine sw_pick (fun h => ?_) (fun h => ?_)) <;> (try (exfalso; first | contradiction | omega | exact h Iff.rfl)) | fail)
  refine sc_loop (α := { x : Nat × List Int // x.1 ≤ bs.length ∧ x.2.length = bs.length }) (fun x => [(1, .pointer (some ⟨b1, 0, none⟩)), (2, .pointer (some ⟨b2, 0, none⟩)), (5, .pointer (some ⟨p, 0, none⟩)), (6, .slice a bs.length c), (54, .int .i64 bs.length), (55, .int .i64 x.1.1)])
    (fun x => (7006, OwnB (.slice a bs.length c) x.1.2) :: (p, LOG p L1) :: (0, ro W) :: (b1, pts b1 (.cells [.slice a0 bs.length c0].toArray 24 (0, 0))) :: (b2, pts b2 (.cells [.bool false].toArray 4 (0, 0))) :: F) (fun x => bs.length - x.1.1) ⟨(0, bs), Nat.zero_le _, rfl⟩ ?_ ?_ ?_
  · repeat' (first | exact says_nil | refine says_cons rfl ?_ | refine says_cons (by simp) ?_)
  · repeat' (first | with_reducible exact Ent.refl _ | with_reducible refine Ent.take_eq ?_ ?_ | rfl | with_reducible refine Ent.oR ?_ | with_reducible refine Ent.trans (Ent.drop _ _) ?_)
  rintro ⟨⟨i, xs⟩, hi, hxl⟩ e
  (try simp only at hi hxl)
  simp only [List.cons_append, List.nil_append]
  repeat' (first | with_reducible (first | refine go1 ?_ | refine sct ?_ | refine scf ?_ | refine sgr ?_) | (with_reducible refine sc_cond (fun h => ?_) (fun h => ?_)) <;> (try (exfalso; first | contradiction | omega | exact h Iff.rfl)) | fail)
  · -- a c: the row's address, its capacity; bs: its first bytes
    have hlt : i < xs.length := by omega
    refine sw_opn (k := 7006) (r := OwnB (.slice a (bs).length c) xs) (α := Nat × List Value) (fun x => Value.slice a (bs).length c = .slice (some ⟨x.1, 0, none⟩) xs.length (xs.length + x.2.length)) (fun x => pts x.1 (.cells (xs.map (Value.int .u8) ++ x.2).toArray 5 (0, 0))) (fun y hy => hy.at (by omega)) ?_
    rintro ⟨b7, t7⟩ hv7
    simp only [Value.slice.injEq] at hv7
    obtain ⟨hv7a, _, hv7c⟩ := hv7
    subst hv7a
    refine sw_rekey b7 ?_
    obtain ⟨x0, hx0⟩ : ∃ x0, xs[i]? = some x0 := ⟨_, List.getElem?_eq_getElem hlt⟩
    have hx1 : (xs.map (Value.int .u8) ++ t7)[i]? = some (.int .u8 x0) := by
      rw [List.getElem?_append_left (by rw [List.length_map]; omega), List.getElem?_map, hx0]; rfl
    have hx2 : (xs.map (Value.int .u8) ++ t7).set i (.int .u8 (IntKind.u8.wrap (x0 + 1))) = (xs.set i (IntKind.u8.wrap (x0 + 1))).map (Value.int .u8) ++ t7 := by
      rw [List.set_append_left _ _ (by rw [List.length_map]; omega), List.map_set]
    refine sw_op (h := runop_idx i (by omega)) ?_
    refine sw_op (h := runop_loadAt (.int .u8 x0) hx1) ?_
    refine sw_op ?_
    refine sw_op (h := runop_idx i (by omega)) ?_
    refine sw_storeAt (by rw [List.length_append, List.length_map]; omega) ?_
    rw [hx2]
    repeat' (first | with_reducible refine sw_i64 (by omega) ?_ | with_reducible (first | refine go1 ?_ | refine sct ?_ | refine scf ?_ | refine sgr ?_) | fail)
    refine sq_round ⟨(i + 1, xs.set i (IntKind.u8.wrap (x0 + 1))), by show i + 1 ≤ (bs).length; omega, by rw [List.length_set]; exact hxl⟩ ?_ ?_ ?_
    · show (bs).length - (i + 1) < (bs).length - i
      omega
    · dsimp only
      rw [show ((i + 1 : Nat) : Int) = (i : Int) + 1 by omega]
      repeat' (first | exact says_nil | refine says_cons rfl ?_ | refine says_cons (by simp) ?_)
    · dsimp only
      refine Ent.trans (B := (b7, pts b7 (.cells ((xs.set i (IntKind.u8.wrap (x0 + 1))).map (Value.int .u8) ++ t7).toArray 5 (0, 0))) :: _) ?_ (Ent.rekey 7006 fun h hh => .inr ⟨b7, t7, by rw [List.length_set, hxl, hv7c, hxl], hh⟩)
      repeat' (first | with_reducible exact Ent.refl _ | with_reducible refine Ent.take_eq ?_ ?_ | rfl | with_reducible refine Ent.oR ?_ | with_reducible refine Ent.trans (Ent.drop _ _) ?_)
  have hnum : L1.first.number = 0 := hn1
  have hit := fun b3 b4 => wRecords1_iter b3 b4 L1.l L1.first.number (by rw [hnum]; omega) (by rw [hl1]; exact Nat.le_of_ble_eq_true rfl) (fun r hr => (hW1.recs r hr).2)
  repeat' (first | with_reducible (first | refine go1 ?_ | refine sct ?_ | refine scf ?_ | refine sgr ?_) | ((with_reducible refine sw_call (wRecords_ok p L1) ?_); rintro _ _ ⟨b3, b4, rfl, rfl⟩) | fail)
  refine sc_rangeFuncS (hit b3 b4) rfl (fun _ => (p, LOG p L1) :: (0, ro W) :: (b1, pts b1 (.cells [.slice a0 bs.length c0].toArray 24 (0, 0))) :: (b2, pts b2 (.cells [.bool false].toArray 4 (0, 0))) :: F) (fun _ _ => falseR) ?_ ?_ ?_ ?_
  · repeat' (first | with_reducible exact Ent.refl _ | with_reducible refine Ent.take_eq ?_ ?_ | rfl | with_reducible refine Ent.oR ?_ | with_reducible refine Ent.trans (Ent.drop _ _) ?_)
  · rintro w1 lp rc F' pre ⟨nx, bx, vx⟩ ⟨hN1, _⟩
    simp only [RecE, List.cons_append]
    refine sc_opn (k := 7006) (r := RecX (nx, bx, vx)) (α := Option Addr × Nat) (fun y => vx = .slice y.1 bx.length y.2) (fun _ => OwnB vx bx) (fun x hx => OwnB.shape hx) ?_
    rintro ⟨a9, c9⟩ rfl
    have hbx : bx = bs := by
      rw [hl1] at hN1
      rcases Nat.eq_zero_or_pos pre.length with h | h
      · rw [h] at hN1
        simp only [numL, RecY.key] at hN1
        cases hN1
        rfl
      · rw [List.getElem?_eq_none (by rw [numL_len]; exact h)] at hN1
        cases hN1
    have hbl2 : bx.length ≤ 140737488355328 := by rw [hbx]; exact hbl
    repeat' (first | with_reducible (first | refine go1 ?_ | refine sct ?_ | refine scf ?_ | refine sgr ?_) | with_reducible refine sq_rAssign ?_ | fail)
    refine sc_loop (α := { x : Nat × List Int // x.1 ≤ bx.length ∧ x.2.length = bx.length }) (fun x => [(11, .slice a9 bx.length c9), (70, .int .i64 bx.length), (71, .int .i64 x.1.1)])
      (fun x => (7006, OwnB (.slice a9 bx.length c9) x.1.2) :: (lp, LoopR lp rc .busy none) :: (p, LOG p L1) :: (0, ro W) :: (b1, pts b1 (.cells [.slice a0 bs.length c0].toArray 24 (0, 0))) :: (b2, pts b2 (.cells [.bool false].toArray 4 (0, 0))) :: (F ++ F')) (fun x => bx.length - x.1.1) ⟨(0, bx), Nat.zero_le _, rfl⟩ ?_ ?_ ?_
    · repeat' (first | exact says_nil | refine says_cons rfl ?_ | refine says_cons (by simp) ?_)
    · repeat' (first | with_reducible exact Ent.refl _ | with_reducible refine Ent.take_eq ?_ ?_ | rfl | with_reducible refine Ent.oR ?_ | with_reducible refine Ent.trans (Ent.drop _ _) ?_)
    rintro ⟨⟨i, xs⟩, hi, hxl⟩ e
    (try simp only at hi hxl)
    simp only [List.cons_append, List.nil_append]
    repeat' (first | with_reducible (first | refine go1 ?_ | refine sct ?_ | refine scf ?_ | refine sgr ?_) | (with_reducible refine sc_cond (fun h => ?_) (fun h => ?_)) <;> (try (exfalso; first | contradiction | omega | exact h Iff.rfl)) | fail)
    · -- a9 c9: the row's address, its capacity; bx: its first bytes
      have hlt : i < xs.length := by omega
      refine sw_opn (k := 7006) (r := OwnB (.slice a9 (bx).length c9) xs) (α := Nat × List Value) (fun x => Value.slice a9 (bx).length c9 = .slice (some ⟨x.1, 0, none⟩) xs.length (xs.length + x.2.length)) (fun x => pts x.1 (.cells (xs.map (Value.int .u8) ++ x.2).toArray 5 (0, 0))) (fun y hy => hy.at (by omega)) ?_
      rintro ⟨b7, t7⟩ hv7
      simp only [Value.slice.injEq] at hv7
      obtain ⟨hv7a, _, hv7c⟩ := hv7
      subst hv7a
      refine sw_rekey b7 ?_
      obtain ⟨x0, hx0⟩ : ∃ x0, xs[i]? = some x0 := ⟨_, List.getElem?_eq_getElem hlt⟩
      have hx1 : (xs.map (Value.int .u8) ++ t7)[i]? = some (.int .u8 x0) := by
        rw [List.getElem?_append_left (by rw [List.length_map]; omega), List.getElem?_map, hx0]; rfl
      have hx2 : (xs.map (Value.int .u8) ++ t7).set i (.int .u8 (IntKind.u8.wrap (x0 + 1))) = (xs.set i (IntKind.u8.wrap (x0 + 1))).map (Value.int .u8) ++ t7 := by
        rw [List.set_append_left _ _ (by rw [List.length_map]; omega), List.map_set]
      refine sw_op (h := runop_idx i (by omega)) ?_
      refine sw_op (h := runop_loadAt (.int .u8 x0) hx1) ?_
      refine sw_op ?_
      refine sw_op (h := runop_idx i (by omega)) ?_
      refine sw_storeAt (by rw [List.length_append, List.length_map]; omega) ?_
      rw [hx2]
      repeat' (first | with_reducible refine sw_i64 (by omega) ?_ | with_reducible (first | refine go1 ?_ | refine sct ?_ | refine scf ?_ | refine sgr ?_) | fail)
      refine sq_round ⟨(i + 1, xs.set i (IntKind.u8.wrap (x0 + 1))), by show i + 1 ≤ (bx).length; omega, by rw [List.length_set]; exact hxl⟩ ?_ ?_ ?_
      · show (bx).length - (i + 1) < (bx).length - i
        omega
      · dsimp only
        rw [show ((i + 1 : Nat) : Int) = (i : Int) + 1 by omega]
        repeat' (first | exact says_nil | refine says_cons rfl ?_ | refine says_cons (by simp) ?_)
      · dsimp only
        refine Ent.trans (B := (b7, pts b7 (.cells ((xs.set i (IntKind.u8.wrap (x0 + 1))).map (Value.int .u8) ++ t7).toArray 5 (0, 0))) :: _) ?_ (Ent.rekey 7006 fun h hh => .inr ⟨b7, t7, by rw [List.length_set, hxl, hv7c, hxl], hh⟩)
        repeat' (first | with_reducible exact Ent.refl _ | with_reducible refine Ent.take_eq ?_ ?_ | rfl | with_reducible refine Ent.oR ?_ | with_reducible refine Ent.trans (Ent.drop _ _) ?_)
    · refine sq_rEnd ?_
      simp only [List.cons_append]
      repeat' (first | with_reducible exact Ent.refl _ | with_reducible refine Ent.take_eq ?_ ?_ | rfl | with_reducible refine Ent.oR ?_ | with_reducible refine Ent.trans (Ent.drop _ _) ?_)
  rotate_left
  · intro r c pre x _
    exact sc_falseR (A := [(r, defers0 r), (b3, RECS b3 b4 L1.l L1.first.number)])
  intro r ys _
  simp only [List.zip_cons_cons, List.zip_nil_left, List.cons_append, List.nil_append]
  repeat' (first | with_reducible (first | refine go1 ?_ | refine sct ?_ | refine scf ?_ | refine sgr ?_) | with_reducible refine sq_block_m ?_ | with_reducible refine sq_then_m ?_ | ((with_reducible refine sw_call (wRecords_ok p L1) ?_); rintro _ _ ⟨b5, b6, rfl, rfl⟩) | fail)
  refine sc_rangeFuncS (hit b5 b6) rfl (fun _ => (r, defers0 r) :: (p, LOG p L1) :: (0, ro W) :: (b1, pts b1 (.cells [.slice a0 bs.length c0].toArray 24 (0, 0))) :: (b2, pts b2 (.cells [.bool false].toArray 4 (0, 0))) :: F) (fun _ _ => falseR) ?_ ?_ ?_ ?_
  · repeat' (first | with_reducible exact Ent.refl _ | with_reducible refine Ent.take_eq ?_ ?_ | rfl | with_reducible refine Ent.oR ?_ | with_reducible refine Ent.trans (Ent.drop _ _) ?_)
  · rintro w1 lp rc F' pre ⟨nx, bx, vx⟩ ⟨hN1, _⟩
    simp only [RecE, List.cons_append]
    refine sc_opn (k := 7006) (r := RecX (nx, bx, vx)) (α := Option Addr × Nat) (fun y => vx = .slice y.1 bx.length y.2) (fun _ => OwnB vx bx) (fun x hx => OwnB.shape hx) ?_
    rintro ⟨a9, c9⟩ rfl
    have hbx : bx = bs := by
      rw [hl1] at hN1
      rcases Nat.eq_zero_or_pos pre.length with h | h
      · rw [h] at hN1
        simp only [numL, RecY.key] at hN1
        cases hN1
        rfl
      · rw [List.getElem?_eq_none (by rw [numL_len]; exact h)] at hN1
        cases hN1
    subst hbx
    refine sc_opn (k := 7006) (r := OwnB (.slice a9 bx.length c9) bx) (α := Unit) (fun _ => RdB (OwnB (.slice a9 bx.length c9) bx) (.slice a9 bx.length c9) bx) (fun _ => OwnB (.slice a9 bx.length c9) bx) (fun x hx => ⟨(), hx.rdb, hx⟩) fun _ hrd9 => ?_
    repeat' (first | with_reducible (first | refine go1 ?_ | refine sct ?_ | refine scf ?_ | refine sgr ?_) | with_reducible refine sq_rAssign ?_ | ((with_reducible refine sw_call (bEqual_bx 7006 0 _ _ _ _ bx hrd9.bx hv hb) ?_); rintro _ _ ⟨rfl, rfl⟩) | (with_reducible refine sc_cond (fun h => ?_) (fun h => ?_)) <;> (try (exfalso; first | contradiction | omega | exact h Iff.rfl)) | fail)
    refine sq_rEnd ?_
    simp only [List.cons_append]
    repeat' (first | with_reducible exact Ent.refl _ | with_reducible refine Ent.take_eq ?_ ?_ | rfl | with_reducible refine Ent.oR ?_ | with_reducible refine Ent.trans (Ent.drop _ _) ?_)
  rotate_left
  · intro r2 c pre x _
    exact sc_falseR (A := [(r2, defers0 r2), (b5, RECS b5 b6 L1.l L1.first.number)])
  intro r2 ys _
  simp only [List.zip_cons_cons, List.zip_nil_left, List.cons_append, List.nil_append]
  repeat' (first | with_reducible (first | refine go1 ?_ | refine sct ?_ | refine scf ?_ | refine sgr ?_) | with_reducible refine sw_store ?_ | with_reducible refine sq_block_m ?_ | with_reducible refine sq_then_m ?_ | fail)
  refine sq_ret_m rfl ?_
  refine sq_ret_m rfl ?_
  refine sq_retc Try.results8 ?_
  refine ⟨_, ⟨rfl, F, rfl⟩, ?_⟩
  repeat' (first | with_reducible exact Ent.refl _ | with_reducible refine Ent.take_eq ?_ ?_ | rfl | with_reducible refine Ent.oR ?_ | with_reducible refine Ent.trans (Ent.drop _ _) ?_)
theorem l2bU8 : Try.prog.bytesOf 5 = 1 := by kernel_rfl
set_option maxRecDepth 100000 in
/-- bytes that came in, bounded -/
theorem read_bytesx_sz {H : Type} {enc : TypeId × Value → H} {W : World} {base : Nat} {ts : List TypeId} {ds : List (DataW H)} {j : Nat} {v : Value} {d : DataW H} {p : List MemPlace} (hz : (DataW.weightsEach Try.prog ts ds).all (· ≤ reachBytes) = true) (ht : ts[j]? = some 24) (hd : ds[j]? = some d)
    (ho : Value.okWide Try.prog W .any base 24 v) (h : DataW.Trod enc Try.prog W 0 (fun _ => true) true 24 v d p) : ∃ bs, RdBx (ro W) v bs ∧ Byt bs ∧ bs.length ≤ 140737488355328 := by
  obtain ⟨bs, h1, h2⟩ := read_bytesx ho h
  refine ⟨bs, h1, h2, ?_⟩
  obtain ⟨a0, len, cap, rfl⟩ := okWide_slice Try.underlying24 ho
  obtain ⟨fuel, hf⟩ := h
  obtain ⟨xs, _, h3, hs⟩ := cell_slice (α := Int) (Value.int .u8) (fun _ => True) Try.underlying24 l2cU8 (fun fuel c y h => by obtain ⟨b, hb, _⟩ := cell_int Try.underlying5 h; exact ⟨b, hb, trivial⟩) (by simpa [Value.cells] using hf)
  have hlen : bs.length = xs.length := by
    obtain ⟨a, c, e1, _⟩ := h1
    obtain ⟨a', c', e2, _⟩ := h3
    rw [e1] at e2
    simp only [Value.slice.injEq, List.length_map] at e2
    exact e2.2.1
  rcases hs with rfl | ⟨es, sp, he, hl⟩
  · rw [hlen]; simp
  · simp only at he
    subst he
    have h4 := sized_slice hz ht hd Try.underlying24
    rw [l2bU8] at h4
    have h5 := reachBytes_lt
    omega
theorem own17_walk {W : World} {v : Value} {bs : List Int} (hv : RdBx (ro W) v bs) (hb : Byt bs) (hbl : bs.length ≤ 140737488355328) : Calls Try.prog 8 #[v] W fun e W' => e = .returned (.bool true) ∧ Below W.heap.size W W' := call_of_spec W (l17Own_ok W v bs hv hb hbl)
end Go.Gsl
