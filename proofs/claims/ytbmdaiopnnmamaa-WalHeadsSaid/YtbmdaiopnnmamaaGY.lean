/- The log: memory is nobody else's. -/
import Derived.Test.YtbmdaiopnnmamaaGX
import Derived.Test.YtbmdaiopnnmamaaGK
import Derived.Test.YtbmdaiopnnmamaaGU
import Derived.Test.YtbmdaiopnnmamaaGE
namespace Go.Gsl
set_option linter.unusedVariables false
open Go.Proofs Go.RowKit Go.ChangeShapes Go.WideShapes
set_option maxHeartbeats 4000000
theorem OwnB.rdb {v : Value} {bs : List Int} {h : Hp} (ho : OwnB v bs h) : RdB (OwnB v bs) v bs := by
  rcases ho with ⟨h1, h2⟩ | ⟨b, t, h1, _⟩
  · rw [h1, h2]; exact .nil
  · rw [h1]
    refine .row b 0 _ _ (Nat.le_add_right _ _) fun h' w hh hf j u hj => ?_
    rcases hh with ⟨h2, _⟩ | ⟨b', t', h2, hi⟩
    · cases h2
    · simp only [Value.slice.injEq, Option.some.injEq, Addr.mk.injEq] at h2
      obtain ⟨⟨rfl, _⟩, _, _⟩ := h2
      refine ⟨_, rfl, cell_row (hf _ _ _ hi.1) ?_⟩
      rw [Nat.zero_add, List.getElem?_append_left (List.getElem?_eq_some_iff.1 hj).1]
      exact hj
theorem bClone_bx (k : Nat) (r : HProp) (v : Value) (bs : List Int) (hv : RdBx r v bs) (hl : bs.length ≤ 140737488355328) :
    Spec Try.prog 33 [v] [k] [r] fun F w Rs' => ∃ a c, w = .slice a bs.length c ∧ Rs' = (7006, OwnB w bs) :: (k, r) :: F := by
  obtain ⟨a, c, rfl, hc, hs, hr⟩ := hv
  refine spec_of Try.func33 rfl Try.ntmps33 rfl ?_
  intro w0 F
  repeat' (first | with_reducible (first | refine go1 ?_ | refine sct ?_ | refine scf ?_ | refine sgr ?_) | (with_reducible refine sc_cond (fun h => ?_) (fun h => ?_)) <;> (try (exfalso; first | contradiction | omega | exact h Iff.rfl)) | fail)
  · have ha : a = none := by simpa using h
    have hb : bs = [] := by
      rcases Nat.eq_zero_or_pos bs.length with h | h
      · exact List.eq_nil_of_length_eq_zero h
      · obtain ⟨b, o, h2⟩ := hs h
        rw [ha] at h2
        cases h2
    subst hb
    refine sq_ret1 Try.results33 ?_
    refine ⟨_, ⟨none, 0, rfl, rfl⟩, ?_⟩
    intro h hh
    exact ⟨fun _ => none, h, fun _ => .inl rfl, by funext i; simp [hjoin], .inl ⟨rfl, rfl⟩, hh⟩
  · refine sw_buildSlice [] (by omega) rfl fun b0 => ?_
    repeat' (first | with_reducible (first | refine go1 ?_ | refine sct ?_ | refine scf ?_ | refine sgr ?_) | fail)
    refine sw_append (src := bs.map (Value.int .u8)) ?_ (one_ints _ _) ?_ fun b t => ?_
    · exact fun w hw => hr.sat (k := k) hw
    · exact ⟨by omega, rfl, by rw [List.length_map], by omega, by omega⟩
    simp only [Nat.zero_add, List.take_nil, List.nil_append, List.length_map]
    repeat' (first | with_reducible (first | refine go1 ?_ | refine sct ?_ | refine scf ?_ | refine sgr ?_) | fail)
    refine sq_ret1 Try.results33 ?_
    refine ⟨_, ⟨_, _, rfl, rfl⟩, Ent.head fun h hh => .inr ⟨b, t, rfl, hh⟩⟩
theorem sw_rekey {P : Program} {ops l : List Oper} {Q : Cont} {n : Nat} {w0 : World} {e : Env} {k : Nat} {r : HProp} {F : List Res} (k' : Nat) (q : SW P ops Q n w0 l e ((k', r) :: F)) : SW P ops Q n w0 l e ((k, r) :: F) := fun w hw => q w hw
theorem Ent.rekey {k : Nat} {r r' : HProp} {F : List Res} (k' : Nat) (h : ∀ x, r x → r' x) : Ent ((k, r) :: F) ((k', r') :: F) := Ent.head (k := k) h
theorem OwnB.shape {v : Value} {bs : List Int} {h : Hp} (ho : OwnB v bs h) : ∃ y : Option Addr × Nat, v = .slice y.1 bs.length y.2 ∧ OwnB v bs h := by
  rcases id ho with ⟨h1, h2⟩ | ⟨b, t, h1, _⟩
  · exact ⟨(none, 0), by rw [h1, h2]; rfl, ho⟩
  · exact ⟨(some ⟨b, 0, none⟩, bs.length + t.length), h1, ho⟩
/-- an element of a row of one's own is counted up -/
theorem OwnB.at {v : Value} {xs : List Int} {h : Hp} (ho : OwnB v xs h) (hp : 0 < xs.length) : ∃ x : Nat × List Value, v = .slice (some ⟨x.1, 0, none⟩) xs.length (xs.length + x.2.length) ∧ pts x.1 (.cells (xs.map (Value.int .u8) ++ x.2).toArray 5 (0, 0)) h := by
  rcases ho with ⟨_, h2⟩ | ⟨b, t, h1, h2⟩
  · rw [h2] at hp; simp at hp
  · exact ⟨(b, t), h1, h2⟩
theorem sc_endc {P : Program} {n : Nat} {w0 : World} {e : Env} {Rs F : List Res} {fn : Func} {R : Value → List Res → Prop} {t b : Nat} {ty ty' : TypeId} {v : Value} {fr : Nat × Nat} (hr : fn.results = #[.cell t ty]) [Lk e t (.pointer (some ⟨b, 0, none⟩))] [Lt t n] [NonAgg P ty] [ht : Take Rs b (pts b (.cells [v].toArray ty' fr)) F] (h : ∃ Rs', R v Rs' ∧ Ent Rs Rs') :
    SQ (Post P fn w0 R) n w0 .normal e Rs := by
  obtain ⟨Rs', h1, h2⟩ := h
  intro w hw
  exact ⟨fun _ h => (by cases h), v, results_runc hr (cell_of (hw.get ht) (by simp)), v, Rs', rfl, h1, hw.ent h2⟩
theorem Lg.app_fresh {pd : Nat} {bs : List Int} {e : Int} {L' : Lg} {n : Int} (h : (Lg.fresh pd 1 5).app bs = (n, e, L')) : e = 3 ∨ e = 5 ∨ (e = 0 ∧ L'.l = [(0, bs)] ∧ L'.first.number = 0) := by
  unfold Lg.app at h
  split at h
  · cases h; exact .inl rfl
  split at h
  · cases h; exact .inr (.inl rfl)
  · cases h; exact .inr (.inr ⟨rfl, rfl, rfl⟩)
set_option maxRecDepth 4000 in
theorem l17Own_ok (W : World) (v : Value) (bs : List Int) (hv : RdBx (ro W) v bs) (hb : Byt bs) (hbl : bs.length ≤ 140737488355328) :
    Spec Try.prog 8 [v] [0] [ro W] fun F w Rs' => w = .bool true ∧ ∃ G, Rs' = (0, ro W) :: G := by
  obtain ⟨a0, c0, rfl, _, _, _⟩ := id hv
  refine spec_of Try.func8 rfl Try.ntmps8 rfl ?_
  intro w0 F
  repeat' (first | with_reducible (first | refine go1 ?_ | refine sct ?_ | refine scf ?_ | refine sgr ?_) | fail)
  refine sw_box fun b1 => ?_
  refine sw_alloc fun b2 => ?_
  repeat' (first | with_reducible (first | refine go1 ?_ | refine sct ?_ | refine scf ?_ | refine sgr ?_) | ((with_reducible refine sw_call dNew_6 ?_); rintro _ _ ⟨pd, rfl, rfl⟩) | ((with_reducible refine sw_call live_ok ?_); rintro _ _ ⟨rfl, rfl⟩) | (with_reducible refine sc_cond (fun h => ?_) (fun h => ?_)) <;> (try (exfalso; first | contradiction | omega | exact h Iff.rfl)) | (with_reducible refine sw_guard_split (fun h => ?_) (fun h => ?_)) <;> (try (exfalso; first | contradiction | omega | exact h Iff.rfl)) | (with_reducible refine sw_pick (fun h => ?_) (fun h => ?_)) <;> (try (exfalso; first | contradiction | omega | exact h Iff.rfl)) | fail)
  refine sw_build (Mk.cs ⟨0, 0, 0, 0⟩) (by kernel_rfl) ?_
  repeat' (first | with_reducible (first | refine go1 ?_ | refine sct ?_ | refine scf ?_ | refine sgr ?_) | ((with_reducible refine sw_call (wOpen_new pd 6 (by omega)) ?_); rintro _ _ ⟨p, rfl, rfl⟩) | (with_reducible refine sc_cond (fun h => ?_) (fun h => ?_)) <;> (try (exfalso; first | contradiction | omega | exact h Iff.rfl)) | (with_reducible refine sw_guard_split (fun h => ?_) (fun h => ?_)) <;> (try (exfalso; first | contradiction | omega | exact h Iff.rfl)) | (with_reducible refine sw_pick (fun h => ?_) (fun h => ?_)) <;> (try (exfalso; first | contradiction | omega | exact h Iff.rfl)) | fail)
  refine sw_call (bClone_bx 0 (ro W) _ bs hv (by omega)) ?_
  rintro _ _ ⟨a, c, rfl, rfl⟩
  repeat' (first | with_reducible (first | refine go1 ?_ | refine sct ?_ | refine scf ?_ | refine sgr ?_) | fail)
  have hW := app_wf (pd := pd) (f := 1) (n := 5) (by omega)
  refine sw_opn (k := 7006) (r := OwnB (.slice a bs.length c) bs) (α := Unit) (fun _ => RdB (OwnB (.slice a bs.length c) bs) (.slice a bs.length c) bs) (fun _ => OwnB (.slice a bs.length c) bs) (fun x hx => ⟨(), hx.rdb, hx⟩) fun _ hrd => ?_
  have happ := wAppend_ok p (Lg.fresh pd 1 5) hW 7006 _ _ bs hrd hb hbl
  have hW1 := Lg.app_wf hW hb
  obtain ⟨⟨n, e, L1⟩, hL1⟩ : ∃ x, (Lg.fresh pd 1 5).app bs = x := ⟨_, rfl⟩
  rw [hL1] at happ hW1
  simp only at happ hW1
  refine sw_call happ ?_
  rintro _ _ ⟨rfl, rfl⟩
  clear happ
  repeat' (first | with_reducible (first | refine go1 ?_ | refine sct ?_ | refine scf ?_ | refine sgr ?_) | fail)
  rcases Lg.app_fresh hL1 with rfl | rfl | ⟨rfl, hl1, hn1⟩
  · repeat' (first | with_reducible (first | refine go1 ?_ | refine sct ?_ | refine scf ?_ | refine sgr ?_) | with_reducible refine sw_store ?_ | (with_reducible refine sc_cond (fun h => ?_) (fun h => ?_)) <;> (try (exfalso; first | contradiction | omega | exact h Iff.rfl)) | (with_reducible refine sw_guard_split (fun h => ?_) (fun h => ?_)) <;> (try (exfalso; first | contradiction | omega | exact h Iff.rfl)) | (with_reducible refine sw_pick (fun h => ?_) (fun h => ?_)) <;> (try (exfalso; first | contradiction | omega | exact h Iff.rfl)) | fail)
    refine sq_retc Try.results8 ?_
    refine ⟨_, ⟨by simp, F, rfl⟩, ?_⟩
    repeat' (first | with_reducible exact Ent.refl _ | with_reducible refine Ent.take_eq ?_ ?_ | rfl | with_reducible refine Ent.oR ?_ | with_reducible refine Ent.trans (Ent.drop _ _) ?_)
  · repeat' (first | with_reducible (first | refine go1 ?_ | refine sct ?_ | refine scf ?_ | refine sgr ?_) | with_reducible refine sw_store ?_ | (with_reducible refine sc_cond (fun h => ?_) (fun h => ?_)) <;> (try (exfalso; first | contradiction | omega | exact h Iff.rfl)) | (with_reducible refine sw_guard_split (fun h => ?_) (fun h => ?_)) <;> (try (exfalso; first | contradiction | omega | exact h Iff.rfl)) | (with_reducible refine sw_pick (fun h => ?_) (fun h => ?_)) <;> (try (exfalso; first | contradiction | omega | exact h Iff.rfl)) | fail)
    refine sq_retc Try.results8 ?_
    refine ⟨_, ⟨by simp, F, rfl⟩, ?_⟩
    repeat' (first | with_reducible exact Ent.refl _ | with_reducible refine Ent.take_eq ?_ ?_ | rfl | with_reducible refine Ent.oR ?_ | with_reducible refine Ent.trans (Ent.drop _ _) ?_)
  repeat' (first | with_reducible (first | refine go1 ?_ | refine sct ?_ | refine scf ?_ | refine sgr ?_) | with_reducible refine sw_store ?_ | (with_reducible refine sc_cond (fun h => ?_) (fun h => ?_)) <;> (try (exfalso; first | contradiction | omega | exact h Iff.rfl)) | (with_reducible refine sw_guard_split (fun h => ?_) (fun h => ?_)) <;> (try (exfalso; first | contradiction | omega | exact h Iff.rfl)) | (with_reducible refine sw_pick (fun h => ?_) (fun h => ?_)) <;> (try (exfalso; first | contradiction | omega | exact h Iff.rfl)) | fail)
  refine sc_loop (α := { x : Nat × List Int // x.1 ≤ bs.length ∧ x.2.length = bs.length }) (fun x => [(1, .pointer (some ⟨b1, 0, none⟩)), (2, .pointer (some ⟨b2, 0, none⟩)), (5, .pointer (some ⟨p, 0, none⟩)), (6, .slice a bs.length c), (54, .int .i64 bs.length), (55, .int .i64 x.1.1)])
    (fun x => (7006, OwnB (.slice a bs.length c) x.1.2) :: (p, LOG p L1) :: (0, ro W) :: (b1, pts b1 (.cells [.slice a0 bs.length c0].toArray 24 (0, 0))) :: (b2, pts b2 (.cells [.bool false].toArray 4 (0, 0))) :: F) (fun x => bs.length - x.1.1) ⟨(0, bs), Nat.zero_le _, rfl⟩ ?_ ?_ ?_
  · repeat' (first | exact says_nil | refine says_cons rfl ?_ | refine says_cons (by simp) ?_)
  · repeat' (first | with_reducible exact Ent.refl _ | with_reducible refine Ent.take_eq ?_ ?_ | rfl | with_reducible refine Ent.oR ?_ | with_reducible refine Ent.trans (Ent.drop _ _) ?_)
  rintro ⟨⟨i, xs⟩, hi, hxl⟩ e
  (try simp only at hi hxl)
  simp only [List.cons_append, List.nil_append]
  repeat' (first | with_reducible (first | refine go1 ?_ | refine sct ?_ | refine scf ?_ | refine sgr ?_) | (with_reducible refine sc_cond (fun h => ?_) (fun h => ?_)) <;> (try (exfalso; first | contradiction | omega | exact h Iff.rfl)) | fail)
  · -- a c: the row's address, its capacity; bs: its first bytes
    have hlt : i < xs.length := by omega
    refine sw_opn (k := 7006) (r := OwnB (.slice a (bs).length c) xs) (α := Nat × List Value) (fun x => Value.slice a (bs).length c = .slice (some ⟨x.1, 0, none⟩) xs.length (xs.length + x.2.length)) (fun x => pts x.1 (.cells (xs.map (Value.int .u8) ++ x.2).toArray 5 (0, 0))) (fun y hy => hy.at (by omega)) ?_
    rintro ⟨b7, t7⟩ hv7
    simp only [Value.slice.injEq] at hv7
    obtain ⟨hv7a, _, hv7c⟩ := hv7
    subst hv7a
    refine sw_rekey b7 ?_
    obtain ⟨x0, hx0⟩ : ∃ x0, xs[i]? = some x0 := ⟨_, List.getElem?_eq_getElem hlt⟩
    have hx1 : (xs.map (Value.int .u8) ++ t7)[i]? = some (.int .u8 x0) := by
      rw [List.getElem?_append_left (by rw [List.length_map]; omega), List.getElem?_map, hx0]; rfl
    have hx2 : (xs.map (Value.int .u8) ++ t7).set i (.int .u8 (IntKind.u8.wrap (x0 + 1))) = (xs.set i (IntKind.u8.wrap (x0 + 1))).map (Value.int .u8) ++ t7 := by
      rw [List.set_append_left _ _ (by rw [List.length_map]; omega), List.map_set]
    refine sw_op (h := runop_idx i (by omega)) ?_
    refine sw_op (h := runop_loadAt (.int .u8 x0) hx1) ?_
    refine sw_op ?_
    refine sw_op (h := runop_idx i (by omega)) ?_
    refine sw_storeAt (by rw [List.length_append, List.length_map]; omega) ?_
    rw [hx2]
    repeat' (first | with_reducible refine sw_i64 (by omega) ?_ | with_reducible (first | refine go1 ?_ | refine sct ?_ | refine scf ?_ | refine sgr ?_) | fail)
    refine sq_round ⟨(i + 1, xs.set i (IntKind.u8.wrap (x0 + 1))), by show i + 1 ≤ (bs).length; omega, by rw [List.length_set]; exact hxl⟩ ?_ ?_ ?_
    · show (bs).length - (i + 1) < (bs).length - i
      omega
    · dsimp only
      rw [show ((i + 1 : Nat) : Int) = (i : Int) + 1 by omega]
      repeat' (first | exact says_nil | refine says_cons rfl ?_ | refine says_cons (by simp) ?_)
    · dsimp only
      refine Ent.trans (B := (b7, pts b7 (.cells ((xs.set i (IntKind.u8.wrap (x0 + 1))).map (Value.int .u8) ++ t7).toArray 5 (0, 0))) :: _) ?_ (Ent.rekey 7006 fun h hh => .inr ⟨b7, t7, by rw [List.length_set, hxl, hv7c, hxl], hh⟩)
      repeat' (first | with_reducible exact Ent.refl _ | with_reducible refine Ent.take_eq ?_ ?_ | rfl | with_reducible refine Ent.oR ?_ | with_reducible refine Ent.trans (Ent.drop _ _) ?_)
  have hnum : L1.first.number = 0 := hn1
  have hit := fun b3 b4 => wRecords1_iter b3 b4 L1.l L1.first.number (by rw [hnum]; omega) (by rw [hl1]; exact Nat.le_of_ble_eq_true rfl) (fun r hr => (hW1.recs r hr).2)
  repeat' (first | with_reducible (first | refine go1 ?_ | refine sct ?_ | refine scf ?_ | refine sgr ?_) | ((with_reducible refine sw_call (wRecords_ok p L1) ?_); rintro _ _ ⟨b3, b4, rfl, rfl⟩) | fail)
  refine sc_rangeFuncS (hit b3 b4) rfl (fun _ => (p, LOG p L1) :: (0, ro W) :: (b1, pts b1 (.cells [.slice a0 bs.length c0].toArray 24 (0, 0))) :: (b2, pts b2 (.cells [.bool false].toArray 4 (0, 0))) :: F) (fun _ _ => falseR) ?_ ?_ ?_ ?_
  · repeat' (first | with_reducible exact Ent.refl _ | with_reducible refine Ent.take_eq ?_ ?_ | rfl | with_reducible refine Ent.oR ?_ | with_reducible refine Ent.trans (Ent.drop _ _) ?_)
  · rintro w1 lp rc F' pre ⟨nx, bx, vx⟩ ⟨hN1, _⟩
    simp only [RecE, List.cons_append]
    refine sc_opn (k := 7006) (r := RecX (nx, bx, vx)) (α := Option Addr × Nat) (fun y => vx = .slice y.1 bx.length y.2) (fun _ => OwnB vx bx) (fun x hx => OwnB.shape hx) ?_
    rintro ⟨a9, c9⟩ rfl
    have hbx : bx = bs := by
      rw [hl1] at hN1
      rcases Nat.eq_zero_or_pos pre.length with h | h
      · rw [h] at hN1
        simp only [numL, RecY.key] at hN1
        cases hN1
        rfl
      · rw [List.getElem?_eq_none (by rw [numL_len]; exact h)] at hN1
        cases hN1
    have hbl2 : bx.length ≤ 140737488355328 := by rw [hbx]; exact hbl
    repeat' (first | with_reducible (first | refine go1 ?_ | refine sct ?_ | refine scf ?_ | refine sgr ?_) | with_reducible refine sq_rAssign ?_ | fail)
    refine sc_loop (α := { x : Nat × List Int // x.1 ≤ bx.length ∧ x.2.length = bx.length }) (fun x => [(11, .slice a9 bx.length c9), (70, .int .i64 bx.length), (71, .int .i64 x.1.1)])
      (fun x => (7006, OwnB (.slice a9 bx.length c9) x.1.2) :: (lp, LoopR lp rc .busy none) :: (p, LOG p L1) :: (0, ro W) :: (b1, pts b1 (.cells [.slice a0 bs.length c0].toArray 24 (0, 0))) :: (b2, pts b2 (.cells [.bool false].toArray 4 (0, 0))) :: (F ++ F')) (fun x => bx.length - x.1.1) ⟨(0, bx), Nat.zero_le _, rfl⟩ ?_ ?_ ?_
    · repeat' (first | exact says_nil | refine says_cons rfl ?_ | refine says_cons (by simp) ?_)
    · repeat' (first | with_reducible exact Ent.refl _ | with_reducible refine Ent.take_eq ?_ ?_ | rfl | with_reducible refine Ent.oR ?_ | with_reducible refine Ent.trans (Ent.drop _ _) ?_)
    rintro ⟨⟨i, xs⟩, hi, hxl⟩ e
    (try simp only at hi hxl)
    simp only [List.cons_append, List.nil_append]
    repeat' (first | with_reducible (first | refine go1 ?_ | refine sct ?_ | refine scf ?_ | refine sgr ?_) | (with_reducible refine sc_cond (fun h => ?_) (fun h => ?_)) <;> (try (exfalso; first | contradiction | omega | exact h Iff.rfl)) | fail)
    · -- a9 c9: the row's address, its capacity; bx: its first bytes
      have hlt : i < xs.length := by omega
      refine sw_opn (k := 7006) (r := OwnB (.slice a9 (bx).length c9) xs) (α := Nat × List Value) (fun x => Value.slice a9 (bx).length c9 = .slice (some ⟨x.1, 0, none⟩) xs.length (xs.length + x.2.length)) (fun x => pts x.1 (.cells (xs.map (Value.int .u8) ++ x.2).toArray 5 (0, 0))) (fun y hy => hy.at (by omega)) ?_
      rintro ⟨b7, t7⟩ hv7
      simp only [Value.slice.injEq] at hv7
      obtain ⟨hv7a, _, hv7c⟩ := hv7
      subst hv7a
      refine sw_rekey b7 ?_
      obtain ⟨x0, hx0⟩ : ∃ x0, xs[i]? = some x0 := ⟨_, List.getElem?_eq_getElem hlt⟩
      have hx1 : (xs.map (Value.int .u8) ++ t7)[i]? = some (.int .u8 x0) := by
        rw [List.getElem?_append_left (by rw [List.length_map]; omega), List.getElem?_map, hx0]; rfl
      have hx2 : (xs.map (Value.int .u8) ++ t7).set i (.int .u8 (IntKind.u8.wrap (x0 + 1))) = (xs.set i (IntKind.u8.wrap (x0 + 1))).map (Value.int .u8) ++ t7 := by
        rw [List.set_append_left _ _ (by rw [List.length_map]; omega), List.map_set]
      refine sw_op (h := runop_idx i (by omega)) ?_
      refine sw_op (h := runop_loadAt (.int .u8 x0) hx1) ?_
      refine sw_op ?_
      refine sw_op (h := runop_idx i (by omega)) ?_
      refine sw_storeAt (by rw [List.length_append, List.length_map]; omega) ?_
      rw [hx2]
      repeat' (first | with_reducible refine sw_i64 (by omega) ?_ | with_reducible (first | refine go1 ?_ | refine sct ?_ | refine scf ?_ | refine sgr ?_) | fail)
      refine sq_round ⟨(i + 1, xs.set i (IntKind.u8.wrap (x0 + 1))), by show i + 1 ≤ (bx).length; omega, by rw [List.length_set]; exact hxl⟩ ?_ ?_ ?_
      · show (bx).length - (i + 1) < (bx).length - i
        omega
      · dsimp only
        rw [show ((i + 1 : Nat) : Int) = (i : Int) + 1 by omega]
        repeat' (first | exact says_nil | refine says_cons rfl ?_ | refine says_cons (by simp) ?_)
      · dsimp only
        refine Ent.trans (B := (b7, pts b7 (.cells ((xs.set i (IntKind.u8.wrap (x0 + 1))).map (Value.int .u8) ++ t7).toArray 5 (0, 0))) :: _) ?_ (Ent.rekey 7006 fun h hh => .inr ⟨b7, t7, by rw [List.length_set, hxl, hv7c, hxl], hh⟩)
        repeat' (first | with_reducible exact Ent.refl _ | with_reducible refine Ent.take_eq ?_ ?_ | rfl | with_reducible refine Ent.oR ?_ | with_reducible refine Ent.trans (Ent.drop _ _) ?_)
    · refine sq_rEnd ?_
      simp only [List.cons_append]
      repeat' (first | with_reducible exact Ent.refl _ | with_reducible refine Ent.take_eq ?_ ?_ | rfl | with_reducible refine Ent.oR ?_ | with_reducible refine Ent.trans (Ent.drop _ _) ?_)
  rotate_left
  · intro r c pre x _
    exact sc_falseR (A := [(r, defers0 r), (b3, RECS b3 b4 L1.l L1.first.number)])
  intro r ys _
  simp only [List.zip_cons_cons, List.zip_nil_left, List.cons_append, List.nil_append]
  repeat' (first | with_reducible (first | refine go1 ?_ | refine sct ?_ | refine scf ?_ | refine sgr ?_) | with_reducible refine sq_block_m ?_ | with_reducible refine sq_then_m ?_ | ((with_reducible refine sw_call (wRecords_ok p L1) ?_); rintro _ _ ⟨b5, b6, rfl, rfl⟩) | fail)
  refine sc_rangeFuncS (hit b5 b6) rfl (fun _ => (r, defers0 r) :: (p, LOG p L1) :: (0, ro W) :: (b1, pts b1 (.cells [.slice a0 bs.length c0].toArray 24 (0, 0))) :: (b2, pts b2 (.cells [.bool false].toArray 4 (0, 0))) :: F) (fun _ _ => falseR) ?_ ?_ ?_ ?_
  · repeat' (first | with_reducible exact Ent.refl _ | with_reducible refine Ent.take_eq ?_ ?_ | rfl | with_reducible refine Ent.oR ?_ | with_reducible refine Ent.trans (Ent.drop _ _) ?_)
  · rintro w1 lp rc F' pre ⟨nx, bx, vx⟩ ⟨hN1, _⟩
    simp only [RecE, List.cons_append]
    refine sc_opn (k := 7006) (r := RecX (nx, bx, vx)) (α := Option Addr × Nat) (fun y => vx = .slice y.1 bx.length y.2) (fun _ => OwnB vx bx) (fun x hx => OwnB.shape hx) ?_
    rintro ⟨a9, c9⟩ rfl
    have hbx : bx = bs := by
      rw [hl1] at hN1
      rcases Nat.eq_zero_or_pos pre.length with h | h
      · rw [h] at hN1
        simp only [numL, RecY.key] at hN1
        cases hN1
        rfl
      · rw [List.getElem?_eq_none (by rw [numL_len]; exact h)] at hN1
        cases hN1
    subst hbx
    refine sc_opn (k := 7006) (r := OwnB (.slice a9 bx.length c9) bx) (α := Unit) (fun _ => RdB (OwnB (.slice a9 bx.length c9) bx) (.slice a9 bx.length c9) bx) (fun _ => OwnB (.slice a9 bx.length c9) bx) (fun x hx => ⟨(), hx.rdb, hx⟩) fun _ hrd9 => ?_
    repeat' (first | with_reducible (first | refine go1 ?_ | refine sct ?_ | refine scf ?_ | refine sgr ?_) | with_reducible refine sq_rAssign ?_ | ((with_reducible refine sw_call (bEqual_bx 7006 0 _ _ _ _ bx hrd9.bx hv hb) ?_); rintro _ _ ⟨rfl, rfl⟩) | (with_reducible refine sc_cond (fun h => ?_) (fun h => ?_)) <;> (try (exfalso; first | contradiction | omega | exact h Iff.rfl)) | fail)
    refine sq_rEnd ?_
    simp only [List.cons_append]
    repeat' (first | with_reducible exact Ent.refl _ | with_reducible refine Ent.take_eq ?_ ?_ | rfl | with_reducible refine Ent.oR ?_ | with_reducible refine Ent.trans (Ent.drop _ _) ?_)
  rotate_left
  · intro r2 c pre x _
    exact sc_falseR (A := [(r2, defers0 r2), (b5, RECS b5 b6 L1.l L1.first.number)])
  intro r2 ys _
  simp only [List.zip_cons_cons, List.zip_nil_left, List.cons_append, List.nil_append]
  repeat' (first | with_reducible (first | refine go1 ?_ | refine sct ?_ | refine scf ?_ | refine sgr ?_) | with_reducible refine sw_store ?_ | with_reducible refine sq_block_m ?_ | with_reducible refine sq_then_m ?_ | fail)
  refine sq_ret_m rfl ?_
  refine sq_ret_m rfl ?_
  refine sq_retc Try.results8 ?_
  refine ⟨_, ⟨rfl, F, rfl⟩, ?_⟩
  repeat' (first | with_reducible exact Ent.refl _ | with_reducible refine Ent.take_eq ?_ ?_ | rfl | with_reducible refine Ent.oR ?_ | with_reducible refine Ent.trans (Ent.drop _ _) ?_)
theorem l2bU8 : Try.prog.bytesOf 5 = 1 := by kernel_rfl
set_option maxRecDepth 100000 in
/-- bytes that came in, bounded -/
theorem read_bytesx_sz {H : Type} {enc : TypeId × Value → H} {W : World} {base : Nat} {ts : List TypeId} {ds : List (DataW H)} {j : Nat} {v : Value} {d : DataW H} {p : List MemPlace} (hz : (DataW.weightsEach Try.prog ts ds).all (· ≤ reachBytes) = true) (ht : ts[j]? = some 24) (hd : ds[j]? = some d)
    (ho : Value.okWide Try.prog W .any base 24 v) (h : DataW.Trod enc Try.prog W 0 (fun _ => true) true 24 v d p) : ∃ bs, RdBx (ro W) v bs ∧ Byt bs ∧ bs.length ≤ 140737488355328 := by
  obtain ⟨bs, h1, h2⟩ := read_bytesx ho h
  refine ⟨bs, h1, h2, ?_⟩
  obtain ⟨a0, len, cap, rfl⟩ := okWide_slice Try.underlying24 ho
  obtain ⟨fuel, hf⟩ := h
  obtain ⟨xs, _, h3, hs⟩ := cell_slice (α := Int) (Value.int .u8) (fun _ => True) Try.underlying24 l2cU8 (fun fuel c y h => by obtain ⟨b, hb, _⟩ := cell_int Try.underlying5 h; exact ⟨b, hb, trivial⟩) (by simpa [Value.cells] using hf)
  have hlen : bs.length = xs.length := by
    obtain ⟨a, c, e1, _⟩ := h1
    obtain ⟨a', c', e2, _⟩ := h3
    rw [e1] at e2
    simp only [Value.slice.injEq, List.length_map] at e2
    exact e2.2.1
  rcases hs with rfl | ⟨es, sp, he, hl⟩
  · rw [hlen]; simp
  · simp only at he
    subst he
    have h4 := sized_slice hz ht hd Try.underlying24
    rw [l2bU8] at h4
    have h5 := reachBytes_lt
    omega
theorem own17_walk {W : World} {v : Value} {bs : List Int} (hv : RdBx (ro W) v bs) (hb : Byt bs) (hbl : bs.length ≤ 140737488355328) : Calls Try.prog 8 #[v] W fun e W' => e = .returned (.bool true) ∧ Below W.heap.size W W' := call_of_spec W (l17Own_ok W v bs hv hb hbl)
end Go.Gsl

namespace Go.Gsl
set_option linter.unusedVariables false
open Go.Proofs Go.RowKit Go.ChangeShapes Go.WideShapes
set_option maxHeartbeats 4000000
abbrev lzero : List Value := [.pointer none, .int .i64 0, .int .i64 0, .int .i64 0, .int .i64 0, .int .i64 0, .slice none 0 0, .slice none 0 0, .int .i64 0, .int .i64 0, .int .i64 0, .int .i64 0, .slice none 0 0, .int .i64 0, .int .i64 0, .bool false]
/-- a log that no call made: nil, or an empty one -/
def DeadL (q : Option Addr) : HProp := fun h => ∃ o : Option Nat, q = o.map (fun p => (⟨p, 0, none⟩ : Addr)) ∧ (match o with | none => True | some p => pts p (.cells lzero.toArray 80 (0, 0)) h)
theorem sc_rekey {P : Program} {Q : Cont} {n : Nat} {w0 : World} {e : Env} {c : Code} {k : Nat} {r : HProp} {F : List Res} (k' : Nat) (q : SC P Q n w0 c e ((k', r) :: F)) : SC P Q n w0 c e ((k, r) :: F) := fun w hw => q w hw
theorem bag0 {F : List Res} : Ent F ((7007, Bag (rbag [])) :: F) := fun h hh => ⟨fun _ => none, h, fun _ => .inl rfl, by funext i; simp [hjoin], Bag.nil _, hh⟩
section
variable (q : Option Addr)
theorem wNone_dead : Spec Try.prog 77 [.pointer q] [7010] [DeadL q] fun F w Rs' => w = .bool true ∧ Rs' = (7010, DeadL q) :: F := by
  refine spec_of Try.func77 rfl Try.ntmps77 rfl ?_
  intro w0 F
  refine sc_opn (k := 7010) (fun o : Option Nat => q = o.map (fun p => (⟨p, 0, none⟩ : Addr))) (fun o h => match o with | none => True | some p => pts p (.cells lzero.toArray 80 (0, 0)) h) (fun x hx => hx) fun o ho => ?_
  subst ho
  cases o with
  | none =>
    dsimp only [Option.map]
    repeat' (first | with_reducible (first | refine go1 ?_ | refine sct ?_ | refine scf ?_ | refine sgr ?_) | with_reducible refine sw_guard_skip_u ?_ | (with_reducible refine sw_guard_split (fun h => ?_) (fun h => ?_)) <;> (try (exfalso; first | contradiction | omega | exact h Iff.rfl)) | (with_reducible refine sw_pick (fun h => ?_) (fun h => ?_)) <;> (try (exfalso; first | contradiction | omega | exact h Iff.rfl)) | fail)
    refine sq_ret1 Try.results77 ?_
    exact ⟨_, ⟨rfl, rfl⟩, Ent.head fun h _ => ⟨none, rfl, trivial⟩⟩
  | some p =>
    refine sc_rekey p ?_
    dsimp only [Option.map]
    repeat' (first | with_reducible (first | refine go1 ?_ | refine sct ?_ | refine scf ?_ | refine sgr ?_) | with_reducible refine sw_guard_skip_u ?_ | (with_reducible refine sw_guard_split (fun h => ?_) (fun h => ?_)) <;> (try (exfalso; first | contradiction | omega | exact h Iff.rfl)) | (with_reducible refine sw_pick (fun h => ?_) (fun h => ?_)) <;> (try (exfalso; first | contradiction | omega | exact h Iff.rfl)) | fail)
    refine sq_ret1 Try.results77 ?_
    exact ⟨_, ⟨rfl, rfl⟩, Ent.rekey 7010 fun h hh => ⟨some p, rfl, hh⟩⟩
theorem wAppend_dead (k : Nat) (r : HProp) (v : Value) (hv : One v) : Spec Try.prog 34 [.pointer q, v] [7010, k] [DeadL q, r] fun F w Rs' => w = .tuple #[.int .i64 0, .int .i64 2] ∧ Rs' = (7010, DeadL q) :: (k, r) :: F := by
  refine spec_of Try.func34 rfl Try.ntmps34 rfl ?_
  intro w0 F
  repeat' (first | with_reducible (first | refine go1 ?_ | refine sct ?_ | refine scf ?_ | refine sgr ?_) | ((with_reducible refine sw_call (wNone_dead q) ?_); rintro _ _ ⟨rfl, rfl⟩) | fail)
  refine sq_ret2 Try.results34 ?_
  exact ⟨_, ⟨rfl, rfl⟩, Ent.refl _⟩
theorem wFlush_dead : Spec Try.prog 41 [.pointer q] [7010] [DeadL q] fun F w Rs' => w = .int .i64 2 ∧ Rs' = (7010, DeadL q) :: F := by
  refine spec_of Try.func41 rfl Try.ntmps41 rfl ?_
  intro w0 F
  repeat' (first | with_reducible (first | refine go1 ?_ | refine sct ?_ | refine scf ?_ | refine sgr ?_) | ((with_reducible refine sw_call (wNone_dead q) ?_); rintro _ _ ⟨rfl, rfl⟩) | fail)
  refine sq_ret1 Try.results41 ?_
  exact ⟨_, ⟨rfl, rfl⟩, Ent.refl _⟩
theorem wTruncate_dead (m : Mk) : Spec Try.prog 42 [.pointer q, .agg m.cs.toArray] [7010] [DeadL q] fun F w Rs' => w = .int .i64 2 ∧ Rs' = (7010, DeadL q) :: F := by
  unfold Mk.cs
  refine spec_of Try.func42 rfl Try.ntmps42 rfl ?_
  intro w0 F
  repeat' (first | with_reducible (first | refine go1 ?_ | refine sct ?_ | refine scf ?_ | refine sgr ?_) | fail)
  refine sw_box fun b => ?_
  repeat' (first | with_reducible (first | refine go1 ?_ | refine sct ?_ | refine scf ?_ | refine sgr ?_) | ((with_reducible refine sw_call (wNone_dead q) ?_); rintro _ _ ⟨rfl, rfl⟩) | fail)
  refine sq_ret1 Try.results42 ?_
  refine ⟨_, ⟨rfl, rfl⟩, ?_⟩
  repeat' (first | with_reducible exact Ent.refl _ | with_reducible refine Ent.take_eq ?_ ?_ | rfl | with_reducible refine Ent.oR ?_ | with_reducible refine Ent.trans (Ent.drop _ _) ?_)
theorem wFlushed_dead : Spec Try.prog 45 [.pointer q] [7010] [DeadL q] fun F w Rs' => w = .int .i64 0 ∧ Rs' = (7010, DeadL q) :: F := by
  refine spec_of Try.func45 rfl Try.ntmps45 rfl ?_
  intro w0 F
  repeat' (first | with_reducible (first | refine go1 ?_ | refine sct ?_ | refine scf ?_ | refine sgr ?_) | ((with_reducible refine sw_call (wNone_dead q) ?_); rintro _ _ ⟨rfl, rfl⟩) | fail)
  refine sq_ret1 Try.results45 ?_
  exact ⟨_, ⟨rfl, rfl⟩, Ent.refl _⟩
theorem wRoom_dead : Spec Try.prog 46 [.pointer q] [7010] [DeadL q] fun F w Rs' => w = .int .i64 0 ∧ Rs' = (7010, DeadL q) :: F := by
  refine spec_of Try.func46 rfl Try.ntmps46 rfl ?_
  intro w0 F
  repeat' (first | with_reducible (first | refine go1 ?_ | refine sct ?_ | refine scf ?_ | refine sgr ?_) | ((with_reducible refine sw_call (wNone_dead q) ?_); rintro _ _ ⟨rfl, rfl⟩) | fail)
  refine sq_ret1 Try.results46 ?_
  exact ⟨_, ⟨rfl, rfl⟩, Ent.refl _⟩
theorem wMark_dead : Spec Try.prog 43 [.pointer q] [7010] [DeadL q] fun F w Rs' => w = .agg (Mk.cs ⟨0, 0, 0, 0⟩).toArray ∧ Rs' = (7010, DeadL q) :: F := by
  refine spec_of Try.func43 rfl Try.ntmps43 rfl ?_
  intro w0 F
  repeat' (first | with_reducible (first | refine go1 ?_ | refine sct ?_ | refine scf ?_ | refine sgr ?_) | fail)
  refine sw_alloc fun b => ?_
  repeat' (first | with_reducible (first | refine go1 ?_ | refine sct ?_ | refine scf ?_ | refine sgr ?_) | ((with_reducible refine sw_call (wNone_dead q) ?_); rintro _ _ ⟨rfl, rfl⟩) | fail)
  refine sw_build (Mk.cs ⟨0, 0, 0, 0⟩) (by kernel_rfl) ?_
  unfold Mk.cs
  refine sw_store_agg ?_
  repeat' (first | with_reducible (first | refine go1 ?_ | refine sct ?_ | refine scf ?_ | refine sgr ?_) | fail)
  refine sq_resA Try.results43 (by first | exact .inl rfl | exact .inr rfl) rfl ?_
  refine ⟨_, ⟨rfl, rfl⟩, ?_⟩
  repeat' (first | with_reducible exact Ent.refl _ | with_reducible refine Ent.take_eq ?_ ?_ | rfl | with_reducible refine Ent.oR ?_ | with_reducible refine Ent.trans (Ent.drop _ _) ?_)
theorem wFirst_dead : Spec Try.prog 44 [.pointer q] [7010] [DeadL q] fun F w Rs' => w = .agg (Mk.cs ⟨0, 0, 0, 0⟩).toArray ∧ Rs' = (7010, DeadL q) :: F := by
  refine spec_of Try.func44 rfl Try.ntmps44 rfl ?_
  intro w0 F
  repeat' (first | with_reducible (first | refine go1 ?_ | refine sct ?_ | refine scf ?_ | refine sgr ?_) | fail)
  refine sw_alloc fun b => ?_
  repeat' (first | with_reducible (first | refine go1 ?_ | refine sct ?_ | refine scf ?_ | refine sgr ?_) | ((with_reducible refine sw_call (wNone_dead q) ?_); rintro _ _ ⟨rfl, rfl⟩) | fail)
  refine sw_build (Mk.cs ⟨0, 0, 0, 0⟩) (by kernel_rfl) ?_
  unfold Mk.cs
  refine sw_store_agg ?_
  repeat' (first | with_reducible (first | refine go1 ?_ | refine sct ?_ | refine scf ?_ | refine sgr ?_) | fail)
  refine sq_resA Try.results44 (by first | exact .inl rfl | exact .inr rfl) rfl ?_
  refine ⟨_, ⟨rfl, rfl⟩, ?_⟩
  repeat' (first | with_reducible exact Ent.refl _ | with_reducible refine Ent.take_eq ?_ ?_ | rfl | with_reducible refine Ent.oR ?_ | with_reducible refine Ent.trans (Ent.drop _ _) ?_)
theorem wPlace_dead (x : Int) : Spec Try.prog 40 [.pointer q, .int .i64 x] [7010] [DeadL q] fun F w Rs' => w = .tuple #[.agg (Mk.cs ⟨0, 0, 0, 0⟩).toArray, .bool false] ∧ Rs' = (7010, DeadL q) :: F := by
  refine spec_of Try.func40 rfl Try.ntmps40 rfl ?_
  intro w0 F
  repeat' (first | with_reducible (first | refine go1 ?_ | refine sct ?_ | refine scf ?_ | refine sgr ?_) | fail)
  refine sw_alloc fun b => ?_
  repeat' (first | with_reducible (first | refine go1 ?_ | refine sct ?_ | refine scf ?_ | refine sgr ?_) | ((with_reducible refine sw_call (wNone_dead q) ?_); rintro _ _ ⟨rfl, rfl⟩) | with_reducible refine sw_guard_skip_u ?_ | fail)
  refine sw_build (Mk.cs ⟨0, 0, 0, 0⟩) (by kernel_rfl) ?_
  unfold Mk.cs
  refine sw_store_agg ?_
  repeat' (first | with_reducible (first | refine go1 ?_ | refine sct ?_ | refine scf ?_ | refine sgr ?_) | fail)
  refine sq_resAT Try.results40 (by first | exact .inl rfl | exact .inr rfl) rfl ?_
  refine ⟨_, ⟨rfl, rfl⟩, ?_⟩
  repeat' (first | with_reducible exact Ent.refl _ | with_reducible refine Ent.take_eq ?_ ?_ | rfl | with_reducible refine Ent.oR ?_ | with_reducible refine Ent.trans (Ent.drop _ _) ?_)
theorem nothing_dead : Spec Try.prog 47 [.pointer q] [7010] [DeadL q] fun F w Rs' => w = .bool true ∧ Rs' = (7010, DeadL q) :: F := by
  have hrec : Spec Try.prog 35 [.pointer q] [7010] [DeadL q] fun F w Rs' => ∃ b3 b4, w = .func (.func 80) #[] #[.pointer (some ⟨b3, 0, none⟩), .pointer (some ⟨b4, 0, none⟩)] ∧ Rs' = (b3, RECS b3 b4 [] 0) :: (7010, DeadL q) :: F := by
    refine spec_of Try.func35 rfl Try.ntmps35 rfl ?_
    intro w0 F
    repeat' (first | with_reducible (first | refine go1 ?_ | refine sct ?_ | refine scf ?_ | refine sgr ?_) | fail)
    refine sw_alloc fun b3 => ?_
    repeat' (first | with_reducible (first | refine go1 ?_ | refine sct ?_ | refine scf ?_ | refine sgr ?_) | fail)
    refine sw_alloc fun b4 => ?_
    repeat' (first | with_reducible (first | refine go1 ?_ | refine sct ?_ | refine scf ?_ | refine sgr ?_) | with_reducible refine sw_store ?_ | ((with_reducible refine sw_call (wNone_dead q) ?_); rintro _ _ ⟨rfl, rfl⟩) | fail)
    refine sq_ret1 Try.results35 ?_
    refine ⟨_, ⟨b3, b4, rfl, rfl⟩, ?_⟩
    refine Ent.trans ?_ (Ent.trans (Ent.cons _ (Ent.cons _ bag0)) (RECS.close (o := none) (rs := []) ⟨rfl, fun _ => ⟨rfl, rfl⟩, fun b c t h => by cases h⟩ rfl))
    repeat' (first | with_reducible exact Ent.refl _ | with_reducible refine Ent.take_eq ?_ ?_ | rfl | with_reducible refine Ent.oR ?_ | with_reducible refine Ent.trans (Ent.drop _ _) ?_)
  refine spec_of Try.func47 rfl Try.ntmps47 rfl ?_
  intro w0 F
  repeat' (first | with_reducible (first | refine go1 ?_ | refine sct ?_ | refine scf ?_ | refine sgr ?_) | fail)
  refine sw_alloc fun b => ?_
  repeat' (first | with_reducible (first | refine go1 ?_ | refine sct ?_ | refine scf ?_ | refine sgr ?_) | ((with_reducible refine sw_call hrec ?_); rintro _ _ ⟨b3, b4, rfl, rfl⟩) | fail)
  refine sc_rangeFuncS (wRecords1_iter b3 b4 [] 0 (by omega) (Nat.zero_le _) (fun r hr => by cases hr)) rfl (fun _ => (7010, DeadL q) :: (b, pts b (.cells [.bool false].toArray 4 (0, 0))) :: F) (fun _ _ => falseR) ?_ ?_ ?_ ?_
  · repeat' (first | with_reducible exact Ent.refl _ | with_reducible refine Ent.take_eq ?_ ?_ | rfl | with_reducible refine Ent.oR ?_ | with_reducible refine Ent.trans (Ent.drop _ _) ?_)
  · rintro w1 lp rc F' pre x ⟨hN, _⟩
    simp [numL] at hN
  rotate_left
  · intro r c pre x _
    exact sc_falseR (A := [(r, defers0 r), (b3, RECS b3 b4 [] 0)])
  intro r ys _
  simp only [List.zip_cons_cons, List.zip_nil_left, List.cons_append, List.nil_append]
  repeat' (first | with_reducible (first | refine go1 ?_ | refine sct ?_ | refine scf ?_ | refine sgr ?_) | with_reducible refine sw_store ?_ | with_reducible refine sq_block_m ?_ | with_reducible refine sq_then_m ?_ | fail)
  refine sq_ret_m rfl ?_
  refine sq_retc Try.results47 ?_
  refine ⟨_, ⟨rfl, rfl⟩, ?_⟩
  repeat' (first | with_reducible exact Ent.refl _ | with_reducible refine Ent.take_eq ?_ ?_ | rfl | with_reducible refine Ent.oR ?_ | with_reducible refine Ent.trans (Ent.drop _ _) ?_)
end
instance (m : Mk) : OneL m.cs := ⟨fun v hv => by
  simp only [Mk.cs, List.mem_cons, List.not_mem_nil, or_false] at hv
  rcases hv with rfl | rfl | rfl | rfl <;> rfl⟩
instance (m : Mk) : LenL m.cs 4 := ⟨rfl⟩
theorem wTruncate_dead4 (q : Option Addr) (a b c d : Int) : Spec Try.prog 42 [.pointer q, .agg [Value.int .i64 a, .int .i64 b, .int .i64 c, .int .i64 d].toArray] [7010] [DeadL q] fun F w Rs' => w = .int .i64 2 ∧ Rs' = (7010, DeadL q) :: F := wTruncate_dead q ⟨a, b, c, d⟩
theorem dead0 {F : List Res} : Ent F ((7010, DeadL none) :: F) := fun h hh => ⟨fun _ => none, h, fun _ => .inl rfl, by funext i; simp [hjoin], ⟨none, rfl, trivial⟩, hh⟩
theorem wOpen_nil (k : Nat) (r : HProp) (m : Mk) : Spec Try.prog 32 [.pointer none, .int .i64 0, .int .i64 2, .agg m.cs.toArray] [k] [r] fun F w Rs' => w = .tuple #[.pointer none, .int .i64 2] ∧ Rs' = (k, r) :: F := by
  have hnil : Spec Try.prog 81 [.pointer none] [k] [r] fun F w Rs' => w = .bool true ∧ Rs' = (k, r) :: F := fun w0 F => dNone_nil w0 ((k, r) :: F)
  have hsec : Spec Try.prog 66 [.pointer none] [k] [r] fun F w Rs' => w = .int .i64 0 ∧ Rs' = (k, r) :: F := by
    refine spec_of Try.func66 rfl Try.ntmps66 rfl ?_
    intro w0 F
    repeat' (first | with_reducible (first | refine go1 ?_ | refine sct ?_ | refine scf ?_ | refine sgr ?_) | ((with_reducible refine sw_call hnil ?_); rintro _ _ ⟨rfl, rfl⟩) | (with_reducible refine sc_cond (fun h => ?_) (fun h => ?_)) <;> (try (exfalso; first | contradiction | omega | exact h Iff.rfl)) | (with_reducible refine sw_guard_split (fun h => ?_) (fun h => ?_)) <;> (try (exfalso; first | contradiction | omega | exact h Iff.rfl)) | (with_reducible refine sw_pick (fun h => ?_) (fun h => ?_)) <;> (try (exfalso; first | contradiction | omega | exact h Iff.rfl)) | fail)
    refine sq_ret1 Try.results66 ?_
    exact ⟨_, ⟨rfl, rfl⟩, Ent.refl _⟩
  refine spec_of Try.func32 rfl Try.ntmps32 rfl ?_
  intro w0 F
  unfold Mk.cs
  repeat' (first | with_reducible (first | refine go1 ?_ | refine sct ?_ | refine scf ?_ | refine sgr ?_) | fail)
  refine sw_box fun b => ?_
  repeat' (first | with_reducible (first | refine go1 ?_ | refine sct ?_ | refine scf ?_ | refine sgr ?_) | ((with_reducible refine sw_call hsec ?_); rintro _ _ ⟨rfl, rfl⟩) | (with_reducible refine sc_cond (fun h => ?_) (fun h => ?_)) <;> (try (exfalso; first | contradiction | omega | exact h Iff.rfl)) | fail)
  refine sq_ret2 Try.results32 ?_
  refine ⟨_, ⟨rfl, rfl⟩, ?_⟩
  repeat' (first | with_reducible exact Ent.refl _ | with_reducible refine Ent.take_eq ?_ ?_ | rfl | with_reducible refine Ent.oR ?_ | with_reducible refine Ent.trans (Ent.drop _ _) ?_)
set_option maxRecDepth 4000 in
theorem l17None_ok (W : World) (m : Mk) (v : Value) (bs : List Int) (hv : RdBx (ro W) v bs) :
    Spec Try.prog 10 [.agg m.cs.toArray, v] [0] [ro W] fun F w Rs' => w = .bool true ∧ ∃ G, Rs' = (0, ro W) :: G := by
  have hv1 := hv.one
  obtain ⟨a0, c0, rfl, _, _, _⟩ := id hv
  have hopen : Spec Try.prog 32 [.pointer none, .int .i64 0, .int .i64 2, .agg [Value.int .i64 m.sector, .int .i64 m.offset, .int .i64 m.number, .int .i64 m.run].toArray] [0] [ro W] fun F w Rs' => w = .tuple #[.pointer none, .int .i64 2] ∧ Rs' = (0, ro W) :: F := wOpen_nil 0 (ro W) m
  unfold Mk.cs
  refine spec_of Try.func10 rfl Try.ntmps10 rfl ?_
  intro w0 F
  repeat' (first | with_reducible (first | refine go1 ?_ | refine sct ?_ | refine scf ?_ | refine sgr ?_) | fail)
  refine sw_box fun b1 => ?_
  repeat' (first | with_reducible (first | refine go1 ?_ | refine sct ?_ | refine scf ?_ | refine sgr ?_) | ((with_reducible refine sw_call live_ok ?_); rintro _ _ ⟨rfl, rfl⟩) | (with_reducible refine sc_cond (fun h => ?_) (fun h => ?_)) <;> (try (exfalso; first | contradiction | omega | exact h Iff.rfl)) | fail)
  refine sw_build lzero (by kernel_rfl) ?_
  refine sw_box fun p => ?_
  refine sw_buildSlice [Value.pointer none, .pointer (some ⟨p, 0, none⟩)] (by omega) rfl fun b2 => ?_
  repeat' (first | with_reducible (first | refine go1 ?_ | refine sct ?_ | refine scf ?_ | refine sgr ?_) | fail)
  refine sc_loop (α := { i : Nat // i ≤ 2 }) (fun i => [(1, .slice a0 bs.length c0), (2, .pointer (some ⟨b1, 0, none⟩)), (17, .slice (some ⟨b2, 0, none⟩) 2 2), (18, .int .i64 2), (19, .int .i64 i.1)])
    (fun _ => (b1, pts b1 (.cells [Value.int .i64 m.sector, .int .i64 m.offset, .int .i64 m.number, .int .i64 m.run].toArray 23 (0, 0))) :: (p, pts p (.cells lzero.toArray 80 (0, 0))) :: (b2, pts b2 (.cells [Value.pointer none, .pointer (some ⟨p, 0, none⟩)].toArray 61 (0, 0))) :: (0, ro W) :: F) (fun i => 2 - i.1) ⟨0, Nat.zero_le _⟩ ?_ ?_ ?_
  · repeat' (first | exact says_nil | refine says_cons rfl ?_ | refine says_cons (by simp) ?_)
  · repeat' (first | with_reducible exact Ent.refl _ | with_reducible refine Ent.take_eq ?_ ?_ | rfl | with_reducible refine Ent.oR ?_ | with_reducible refine Ent.trans (Ent.drop _ _) ?_)
  rintro ⟨i, hi⟩ e
  (try simp only at hi)
  simp only [List.cons_append, List.nil_append]
  repeat' (first | with_reducible (first | refine go1 ?_ | refine sct ?_ | refine scf ?_ | refine sgr ?_) | (with_reducible refine sc_cond (fun h => ?_) (fun h => ?_)) <;> (try (exfalso; first | contradiction | omega | exact h Iff.rfl)) | fail)
  · refine sw_op (h := runop_idx i (by omega)) ?_
    have hi2 : i = 0 ∨ i = 1 := by omega
    rcases hi2 with rfl | rfl
    · refine sw_op (h := runop_loadAt (.pointer none) rfl) ?_
      refine sw_ent dead0 ?_
      repeat' (first | with_reducible refine sw_i64 (by omega) ?_ | with_reducible (first | refine go1 ?_ | refine sct ?_ | refine scf ?_ | refine sgr ?_) | ((with_reducible refine sw_call (wAppend_dead none 0 (ro W) _ hv1) ?_); rintro _ _ ⟨rfl, rfl⟩) | ((with_reducible refine sw_call (wPlace_dead none m.number) ?_); rintro _ _ ⟨rfl, rfl⟩) | with_reducible refine sw_alloc fun b9 => ?_ | with_reducible refine sw_store_agg ?_ | ((with_reducible refine sw_call (wFlush_dead none) ?_); rintro _ _ ⟨rfl, rfl⟩) | ((with_reducible refine sw_call (wTruncate_dead4 none _ _ _ _) ?_); rintro _ _ ⟨rfl, rfl⟩) | ((with_reducible refine sw_call (wMark_dead none) ?_); rintro _ _ ⟨rfl, rfl⟩) | ((with_reducible refine sw_call (wFirst_dead none) ?_); rintro _ _ ⟨rfl, rfl⟩) | ((with_reducible refine sw_call (wFlushed_dead none) ?_); rintro _ _ ⟨rfl, rfl⟩) | ((with_reducible refine sw_call (wRoom_dead none) ?_); rintro _ _ ⟨rfl, rfl⟩) | ((with_reducible refine sw_call (nothing_dead none) ?_); rintro _ _ ⟨rfl, rfl⟩) | with_reducible refine sw_build (Mk.cs ⟨0, 0, 0, 0⟩) (by kernel_rfl) ?_ | (with_reducible refine sc_cond (fun h => ?_) (fun h => ?_)) <;> (try (exfalso; first | contradiction | omega | exact h Iff.rfl)) | (with_reducible refine sw_guard_split (fun h => ?_) (fun h => ?_)) <;> (try (exfalso; first | contradiction | omega | exact h Iff.rfl)) | (with_reducible refine sw_pick (fun h => ?_) (fun h => ?_)) <;> (try (exfalso; first | contradiction | omega | exact h Iff.rfl)) | fail)
      refine sq_round ⟨1, by omega⟩ (by show 2 - 1 < 2 - 0; omega) ?_ ?_
      · repeat' (first | exact says_nil | refine says_cons rfl ?_ | refine says_cons (by simp) ?_)
      · repeat' (first | with_reducible exact Ent.refl _ | with_reducible refine Ent.take_eq ?_ ?_ | rfl | with_reducible refine Ent.oR ?_ | with_reducible refine Ent.trans (Ent.drop _ _) ?_)
    · refine sw_op (h := runop_loadAt (.pointer (some ⟨p, 0, none⟩)) rfl) ?_
      refine sw_ent (Ent.trans (Ent.take (k := p) (r' := pts p (.cells lzero.toArray 80 (0, 0))) (fun _ h => h) (Ent.refl _)) (Ent.rekey 7010 (r' := DeadL (some ⟨p, 0, none⟩)) fun h hh => ⟨some p, rfl, hh⟩)) ?_
      repeat' (first | with_reducible refine sw_i64 (by omega) ?_ | with_reducible (first | refine go1 ?_ | refine sct ?_ | refine scf ?_ | refine sgr ?_) | ((with_reducible refine sw_call (wAppend_dead (some ⟨p, 0, none⟩) 0 (ro W) _ hv1) ?_); rintro _ _ ⟨rfl, rfl⟩) | ((with_reducible refine sw_call (wPlace_dead (some ⟨p, 0, none⟩) m.number) ?_); rintro _ _ ⟨rfl, rfl⟩) | with_reducible refine sw_alloc fun b9 => ?_ | with_reducible refine sw_store_agg ?_ | ((with_reducible refine sw_call (wFlush_dead (some ⟨p, 0, none⟩)) ?_); rintro _ _ ⟨rfl, rfl⟩) | ((with_reducible refine sw_call (wTruncate_dead4 (some ⟨p, 0, none⟩) _ _ _ _) ?_); rintro _ _ ⟨rfl, rfl⟩) | ((with_reducible refine sw_call (wMark_dead (some ⟨p, 0, none⟩)) ?_); rintro _ _ ⟨rfl, rfl⟩) | ((with_reducible refine sw_call (wFirst_dead (some ⟨p, 0, none⟩)) ?_); rintro _ _ ⟨rfl, rfl⟩) | ((with_reducible refine sw_call (wFlushed_dead (some ⟨p, 0, none⟩)) ?_); rintro _ _ ⟨rfl, rfl⟩) | ((with_reducible refine sw_call (wRoom_dead (some ⟨p, 0, none⟩)) ?_); rintro _ _ ⟨rfl, rfl⟩) | ((with_reducible refine sw_call (nothing_dead (some ⟨p, 0, none⟩)) ?_); rintro _ _ ⟨rfl, rfl⟩) | with_reducible refine sw_build (Mk.cs ⟨0, 0, 0, 0⟩) (by kernel_rfl) ?_ | (with_reducible refine sc_cond (fun h => ?_) (fun h => ?_)) <;> (try (exfalso; first | contradiction | omega | exact h Iff.rfl)) | (with_reducible refine sw_guard_split (fun h => ?_) (fun h => ?_)) <;> (try (exfalso; first | contradiction | omega | exact h Iff.rfl)) | (with_reducible refine sw_pick (fun h => ?_) (fun h => ?_)) <;> (try (exfalso; first | contradiction | omega | exact h Iff.rfl)) | fail)
      refine sq_ent (Ent.trans (Ent.take (k := 7010) (r' := DeadL (some ⟨p, 0, none⟩)) (fun _ h => h) (Ent.refl _)) (Ent.rekey p (r' := pts p (.cells lzero.toArray 80 (0, 0))) fun h hh => ?_)) ?_
      · obtain ⟨o, ho, hh⟩ := hh
        cases o with
        | none => cases ho
        | some p' => cases ho; exact hh
      refine sq_round ⟨2, by omega⟩ (by show 2 - 2 < 2 - 1; omega) ?_ ?_
      · repeat' (first | exact says_nil | refine says_cons rfl ?_ | refine says_cons (by simp) ?_)
      · repeat' (first | with_reducible exact Ent.refl _ | with_reducible refine Ent.take_eq ?_ ?_ | rfl | with_reducible refine Ent.oR ?_ | with_reducible refine Ent.trans (Ent.drop _ _) ?_)
  · repeat' (first | with_reducible (first | refine go1 ?_ | refine sct ?_ | refine scf ?_ | refine sgr ?_) | ((with_reducible refine sw_call hopen ?_); rintro _ _ ⟨rfl, rfl⟩) | (with_reducible refine sc_cond (fun h => ?_) (fun h => ?_)) <;> (try (exfalso; first | contradiction | omega | exact h Iff.rfl)) | (with_reducible refine sw_guard_split (fun h => ?_) (fun h => ?_)) <;> (try (exfalso; first | contradiction | omega | exact h Iff.rfl)) | (with_reducible refine sw_pick (fun h => ?_) (fun h => ?_)) <;> (try (exfalso; first | contradiction | omega | exact h Iff.rfl)) | fail)
    refine sq_ret1 Try.results10 ?_
    refine ⟨_, ⟨by simp, F, rfl⟩, ?_⟩
    repeat' (first | with_reducible exact Ent.refl _ | with_reducible refine Ent.take_eq ?_ ?_ | rfl | with_reducible refine Ent.oR ?_ | with_reducible refine Ent.trans (Ent.drop _ _) ?_)
theorem none17_walk {W : World} {v : Value} {bs : List Int} {s o u q : Int} (hv : RdBx (ro W) v bs) : Calls Try.prog 10 #[.agg #[.int .i64 s, .int .i64 o, .int .i64 u, .int .i64 q], v] W fun e W' => e = .returned (.bool true) ∧ Below W.heap.size W W' := call_of_spec W (l17None_ok W ⟨s, o, u, q⟩ v bs hv)
end Go.Gsl

namespace Go.Gsl
set_option linter.unusedVariables false
open Go.Proofs
set_option maxHeartbeats 4000000
section
variable {P : Program} {ops l : List Oper} {Q : Cont} {n : Nat} {w0 : World} {e : Env} {Rs F : List Res}
theorem OwnB.opened {v : Value} {xs : List Int} {h : Hp} (ho : OwnB v xs h) : ∃ o : Option (Nat × List Value), ((o = none → xs = []) ∧ v = bufV xs.length o) ∧ hall (oR (rG xs) [] o) h := by
  rcases ho with ⟨h1, h2⟩ | ⟨b, t, h1, h2⟩
  · exact ⟨none, ⟨fun _ => h2, by rw [h1]; rfl⟩, trivial⟩
  · refine ⟨some (b, t), ⟨fun h => (by cases h), h1⟩, ?_⟩
    rw [vG_some]
    exact ⟨h, fun _ => none, fun _ => .inr (.inl rfl), by funext i; simp [hjoin], h2, trivial⟩
theorem sw_own {v : Value} {xs : List Int} (k : Nat) [tk : Take Rs k (OwnB v xs) F] (q : ∀ o : Option (Nat × List Value), (o = none → xs = []) → v = bufV xs.length o → SW P ops Q n w0 l e (oR (rG xs) F o)) : SW P ops Q n w0 l e Rs := by
  refine sw_opn (k := k) (r := OwnB v xs) (fun o : Option (Nat × List Value) => (o = none → xs = []) ∧ v = bufV xs.length o) (fun o => hall (oR (rG xs) [] o)) (fun x hx => hx.opened) fun o ho => ?_
  refine sw_ent (Ent.hall_open k _ _) ?_
  rw [oR_app]
  exact q o ho.1 ho.2
theorem OwnB.close {xs : List Int} {o : Option (Nat × List Value)} (k : Nat) (ho : o = none → xs = []) : Ent (oR (rG xs) F o) ((k, OwnB (bufV xs.length o) xs) :: F) := by
  cases o with
  | none =>
    have := ho rfl
    subst this
    exact fun h hh => ⟨fun _ => none, h, fun _ => .inl rfl, by funext i; simp [hjoin], .inl ⟨rfl, rfl⟩, hh⟩
  | some bt =>
    obtain ⟨b, t⟩ := bt
    rw [vG_some]
    exact Ent.rekey k fun h hh => .inr ⟨b, t, rfl, hh⟩
theorem sc_own {c : Code} {v : Value} {xs : List Int} (k : Nat) [tk : Take Rs k (OwnB v xs) F] (q : ∀ o : Option (Nat × List Value), (o = none → xs = []) → v = bufV xs.length o → SC P Q n w0 c e (oR (rG xs) F o)) : SC P Q n w0 c e Rs := by
  refine sc_opn (k := k) (r := OwnB v xs) (fun o : Option (Nat × List Value) => (o = none → xs = []) ∧ v = bufV xs.length o) (fun o => hall (oR (rG xs) [] o)) (fun x hx => hx.opened) fun o ho => ?_
  refine sc_ent (Ent.hall_open k _ _) ?_
  rw [oR_app]
  exact q o ho.1 ho.2
theorem own0 (k : Nat) : Ent F ((k, OwnB (.slice none 0 0) []) :: F) := fun h hh => ⟨fun _ => none, h, fun _ => .inl rfl, by funext i; simp [hjoin], .inl ⟨rfl, rfl⟩, hh⟩
end
theorem q17Ranged_ok (x : Int) : Spec Try.prog 53 [.int .i64 x] [] [] fun F v Rs' => v = .bool (decide (Stamp x 0)) ∧ Rs' = F := by
  refine spec_of Try.func53 rfl Try.ntmps53 rfl ?_
  intro w0 F
  repeat' (first | with_reducible (first | refine go1 ?_ | refine sct ?_ | refine scf ?_ | refine sgr ?_) | (with_reducible refine sc_cond (fun h => ?_) (fun h => ?_)) <;> (try (exfalso; first | contradiction | omega | exact h Iff.rfl)) | (with_reducible refine sw_guard_split (fun h => ?_) (fun h => ?_)) <;> (try (exfalso; first | contradiction | omega | exact h Iff.rfl)) | (with_reducible refine sw_pick (fun h => ?_) (fun h => ?_)) <;> (try (exfalso; first | contradiction | omega | exact h Iff.rfl)) | fail)
  all_goals
    refine sq_ret1 Try.results53 ?_
    refine ⟨_, ⟨?_, rfl⟩, Ent.refl _⟩
    congr 1
    first
      | exact decide_eq_decide.2 (by unfold Stamp; omega)
      | exact (decide_eq_false (by unfold Stamp; omega)).symm
theorem bufV_slice (n : Nat) (o : Option (Nat × List Value)) (h : o = none → n = 0) : ∃ a c, bufV n o = .slice a n c := by
  cases o with
  | none => rw [h rfl]; exact ⟨none, 0, rfl⟩
  | some bt => exact ⟨_, _, rfl⟩
set_option linter.unusedVariables false in
theorem q17Put_ok (v : Value) (xs : List Int) (x : Int) (m : Nat) (hx : 0 ≤ x ∧ x ≤ 9223372036854775807) (hm : m ≤ 8) (hl : xs.length ≤ 4096) : Spec Try.prog 54 [v, .int .i64 x, .int .i64 m] [7006] [OwnB v xs]
    fun F w Rs' => (∃ a c, w = .slice a (xs ++ le m x).length c) ∧ Rs' = (7006, OwnB w (xs ++ le m x)) :: F := by
  refine spec_of Try.func54 rfl Try.ntmps54 rfl ?_
  intro w0 F
  refine sc_own 7006 fun o ho hv => ?_
  subst hv
  repeat' (first | with_reducible (first | refine go1 ?_ | refine sct ?_ | refine scf ?_ | refine sgr ?_) | fail)
  refine sc_loop (α := { y : Nat × Option (Nat × List Value) // y.1 ≤ m ∧ (y.2 = none → xs ++ le y.1 x = []) }) (fun y => [(0, bufV (xs ++ le y.1.1 x).length y.1.2), (1, .int .i64 (x / 256 ^ y.1.1)), (2, .int .i64 m), (7, .int .i64 y.1.1)]) (fun y => oR (rG (xs ++ le y.1.1 x)) F y.1.2) (fun y => m - y.1.1)
    ⟨(0, o), Nat.zero_le _, fun h => by rw [ho h]; rfl⟩ ?_ ?_ ?_
  · dsimp only
    rw [show xs ++ le 0 x = xs from List.append_nil _, show x / 256 ^ 0 = x by simp]
    repeat' (first | exact says_nil | refine says_cons rfl ?_ | refine says_cons (by simp) ?_)
  · dsimp only
    rw [show xs ++ le 0 x = xs from List.append_nil _]
    repeat' (first | with_reducible exact Ent.refl _ | with_reducible refine Ent.take_eq ?_ ?_ | rfl | with_reducible refine Ent.oR ?_ | with_reducible refine Ent.trans (Ent.drop _ _) ?_)
  rintro ⟨⟨i, o1⟩, hi, ho1⟩ e
  (try simp only at hi ho1)
  simp only [List.cons_append, List.nil_append]
  have hdv : x / 256 ^ i / 256 = x / 256 ^ (i + 1) := by rw [pow_succ256, Int.ediv_ediv_of_nonneg (Int.le_of_lt (Int.pow_pos (by omega)))]
  have hpos : 0 ≤ x / 256 ^ i := Int.ediv_nonneg hx.1 (Int.le_of_lt (Int.pow_pos (by decide)))
  have hle : x / 256 ^ i ≤ x := Int.ediv_le_self _ hx.1
  repeat' (first | with_reducible (first | refine go1 ?_ | refine sct ?_ | refine scf ?_ | refine sgr ?_) | (with_reducible refine sc_cond (fun h => ?_) (fun h => ?_)) <;> (try (exfalso; first | contradiction | omega | exact h Iff.rfl)) | fail)
  · rw [wrap_u8_mod]
    refine sw_buildSlice [.int .u8 (x / 256 ^ i % 256)] (by omega) rfl fun b1 => ?_
    refine sw_appendV1 (kd := .u8) (b7 := b1) (xs ++ le i x) (x / 256 ^ i % 256) o1 ho1 ⟨by rw [List.length_append, le_len]; omega, by rw [List.length_append, le_len]; omega⟩ fun o2 ho2 => ?_
    repeat' (first | with_reducible (first | refine go1 ?_ | refine sct ?_ | refine scf ?_ | refine sgr ?_) | fail)
    refine sw_op (h := runop_quo_nn (by omega)) ?_
    repeat' (first | with_reducible refine sw_i64 (by omega) ?_ | with_reducible (first | refine go1 ?_ | refine sct ?_ | refine scf ?_ | refine sgr ?_) | fail)
    rw [hdv]
    have hap : xs ++ le i x ++ [x / 256 ^ i % 256] = xs ++ le (i + 1) x := by rw [le_succ, List.append_assoc]
    rw [hap]
    refine sq_round ⟨(i + 1, o2), by omega, fun h => absurd h ho2⟩ ?_ ?_ ?_
    · show m - (i + 1) < m - i
      omega
    · dsimp only
      rw [show ((i + 1 : Nat) : Int) = (i : Int) + 1 by omega]
      repeat' (first | exact says_nil | refine says_cons rfl ?_ | refine says_cons (by simp) ?_)
    · repeat' (first | with_reducible exact Ent.refl _ | with_reducible refine Ent.take_eq ?_ ?_ | rfl | with_reducible refine Ent.oR ?_ | with_reducible refine Ent.trans (Ent.drop _ _) ?_)
  · have him : i = m := by omega
    subst him
    repeat' (first | with_reducible (first | refine go1 ?_ | refine sct ?_ | refine scf ?_ | refine sgr ?_) | fail)
    refine sq_ret1 Try.results54 ?_
    exact ⟨_, ⟨bufV_slice _ _ fun h => by rw [ho1 h]; rfl, rfl⟩, OwnB.close 7006 ho1⟩
theorem q17Put8 (v : Value) (xs : List Int) (x : Int) (hx : 0 ≤ x ∧ x ≤ 9223372036854775807) (hl : xs.length ≤ 4096) : Spec Try.prog 54 [v, .int .i64 x, .int .i64 8] [7006] [OwnB v xs]
    fun F w Rs' => (∃ a c, w = .slice a (xs ++ le 8 x).length c) ∧ Rs' = (7006, OwnB w (xs ++ le 8 x)) :: F := q17Put_ok v xs x 8 hx (by omega) hl
theorem q17Put4 (v : Value) (xs : List Int) (x : Int) (hx : 0 ≤ x ∧ x ≤ 9223372036854775807) (hl : xs.length ≤ 4096) : Spec Try.prog 54 [v, .int .i64 x, .int .i64 4] [7006] [OwnB v xs]
    fun F w Rs' => (∃ a c, w = .slice a (xs ++ le 4 x).length c) ∧ Rs' = (7006, OwnB w (xs ++ le 4 x)) :: F := q17Put_ok v xs x 4 hx (by omega) hl
theorem q17Put2 (v : Value) (xs : List Int) (x : Int) (hx : 0 ≤ x ∧ x ≤ 9223372036854775807) (hl : xs.length ≤ 4096) : Spec Try.prog 54 [v, .int .i64 x, .int .i64 2] [7006] [OwnB v xs]
    fun F w Rs' => (∃ a c, w = .slice a (xs ++ le 2 x).length c) ∧ Rs' = (7006, OwnB w (xs ++ le 2 x)) :: F := q17Put_ok v xs x 2 hx (by omega) hl
theorem ofBE_pre {xs : List Int} (hb : Byt xs) (i : Nat) : ofBE (xs.take i) ≤ ofBE xs := by
  have h1 : ∀ k, ofBE (xs.take i) ≤ ofBE (xs.take (i + k)) := by
    intro k
    induction k with
    | zero => exact Int.le_refl _
    | succ k ih =>
      refine Int.le_trans ih ?_
      rw [← Nat.add_assoc, List.take_add_one]
      cases hx : xs[i + k]? with
      | none => rw [Option.toList_none, List.append_nil]; exact Int.le_refl _
      | some x =>
        rw [Option.toList_some, ofBE_snoc]
        have h2 := hb x (List.mem_of_getElem? hx)
        have h3 := (ofBE_lt _ _ rfl fun y hy => hb y (List.mem_of_mem_take (i := i + k) hy)).1
        omega
  have h2 := h1 xs.length
  rwa [List.take_of_length_le (i := i + xs.length) (by omega)] at h2
theorem q17Get_ok (k : Nat) (r : HProp) (v : Value) (bs : List Int) (hv : RdB r v bs) (hb : Byt bs) (hl : bs.length ≤ 4096) (hs : ofLE bs ≤ 4611686018427387904) : Spec Try.prog 60 [v] [k] [r] fun F w Rs' => w = .int .i64 (ofLE bs) ∧ Rs' = (k, r) :: F := by
  refine spec_of Try.func60 rfl Try.ntmps60 rfl ?_
  intro w0 F
  obtain ⟨a, c, rfl, hsome, hc, hr⟩ := hv.gen
  have hbr : Byt bs.reverse := fun x hx => hb x (List.mem_reverse.1 hx)
  have hpre : ∀ i, ofBE (bs.reverse.take i) ≤ 4611686018427387904 := fun i => Int.le_trans (ofBE_pre hbr i) hs
  have hnn : ∀ i, 0 ≤ ofBE (bs.reverse.take i) := fun i => (ofBE_lt _ _ rfl fun x hx => hbr x (List.mem_of_mem_take hx)).1
  repeat' (first | with_reducible refine sw_i64 (by omega) ?_ | with_reducible (first | refine go1 ?_ | refine sct ?_ | refine scf ?_ | refine sgr ?_) | fail)
  refine sc_loop (α := { i : Nat // i ≤ bs.length }) (fun i => [(0, .slice a bs.length c), (3, .int .i64 (ofBE (bs.reverse.take i.1))), (4, .int .i64 ((bs.length : Int) - 1 - (i.1 : Int)))])
    (fun _ => (k, r) :: F) (fun i => bs.length - i.1) ⟨0, Nat.zero_le _⟩ ?_ ?_ ?_
  · refine says_cons rfl (says_cons rfl (says_cons ?_ says_nil))
    simp
  · exact Ent.refl _
  rintro ⟨i, hi⟩ e
  (try simp only at hi)
  simp only [List.cons_append, List.nil_append]
  have hp1 := hpre (i + 1)
  have hn0 := hnn i
  rcases Nat.lt_or_ge i bs.length with hlt | hge
  · obtain ⟨b, o, rfl⟩ := hsome (by omega)
    have hi2 : bs.length - 1 - i < bs.length := by omega
    have hri : bs[bs.length - 1 - i]? = some bs[bs.length - 1 - i] := List.getElem?_eq_getElem hi2
    have hbi := hb _ (List.getElem_mem hi2)
    have hrev : bs.reverse[i]? = some bs[bs.length - 1 - i] := by rw [List.getElem?_reverse (by omega), hri]
    have hsn : ofBE (bs.reverse.take (i + 1)) = ofBE (bs.reverse.take i) * 256 + bs[bs.length - 1 - i] := by
      rw [List.take_add_one, hrev, Option.toList_some, ofBE_snoc]
    rw [hsn] at hp1
    obtain ⟨B, hB⟩ : ∃ B, B = ofBE (bs.reverse.take i) := ⟨_, rfl⟩
    obtain ⟨y, hy⟩ : ∃ y, y = bs[bs.length - 1 - i] := ⟨_, rfl⟩
    rw [← hB] at hsn hp1 hn0 ⊢
    rw [← hy] at hsn hp1 hbi hri
    repeat' (first | with_reducible refine sw_i64 (by omega) ?_ | with_reducible (first | refine go1 ?_ | refine sct ?_ | refine scf ?_ | refine sgr ?_) | (with_reducible refine sc_cond (fun h => ?_) (fun h => ?_)) <;> (try (exfalso; first | contradiction | omega | exact h Iff.rfl)) | fail)
    refine sw_index (by omega) ?_
    refine sw_load_rd k (bs.length - 1 - i) (.int .u8 y) hr (by rw [List.getElem?_map, hri]; rfl) (by omega) ?_
    repeat' (first | with_reducible refine sw_i64 (by omega) ?_ | with_reducible refine sw_conv_i64 (by omega) ?_ | with_reducible (first | refine go1 ?_ | refine sct ?_ | refine scf ?_ | refine sgr ?_) | fail)
    refine sq_round ⟨i + 1, by omega⟩ ?_ ?_ ?_
    · show bs.length - (i + 1) < bs.length - i
      omega
    · rw [hsn, show B * 256 + y = 256 * B + y by omega]
      refine says_cons rfl (says_cons rfl (says_cons ?_ says_nil))
      have : (bs.length : Int) - 1 - ((i + 1 : Nat) : Int) = (bs.length : Int) - 1 - (i : Int) - 1 := by omega
      rw [this]
      try rfl
    · exact Ent.refl _
  · have hil : i = bs.length := by omega
    subst hil
    repeat' (first | with_reducible refine sw_i64 (by omega) ?_ | with_reducible (first | refine go1 ?_ | refine sct ?_ | refine scf ?_ | refine sgr ?_) | (with_reducible refine sc_cond (fun h => ?_) (fun h => ?_)) <;> (try (exfalso; first | contradiction | omega | exact h Iff.rfl)) | fail)
    rw [List.take_of_length_le (by rw [List.length_reverse]; exact Nat.le_refl _)]
    repeat' (first | with_reducible (first | refine go1 ?_ | refine sct ?_ | refine scf ?_ | refine sgr ?_) | fail)
    refine sq_ret1 Try.results60 ?_
    exact ⟨_, ⟨rfl, rfl⟩, Ent.refl _⟩
/-- appending what was put together to bytes that came in -/
theorem hd_pieces (seq run began : Int) (bs : List Int) : ([] ++ le 8 seq ++ le 8 run ++ le 8 began ++ le 2 bs.length) ++ bs ++ List.replicate (482 - bs.length) 0 = hdRest seq run began bs := by
  unfold hdRest
  rw [List.nil_append]
set_option maxRecDepth 20000 in
theorem q17Head_ok (k : Nat) (r : HProp) (seq run began : Int) (v : Value) (bs : List Int) (hv : RdBx r v bs) (hb : Byt bs) (hl : bs.length ≤ 140737488355328) :
    Spec Try.prog 13 [.int .i64 seq, .int .i64 run, .int .i64 began, v] [k] [r]
    fun F w Rs' => (¬ HdOk seq run began bs.length ∧ w = .tuple #[.slice none 0 0, .int .i64 1] ∧ Rs' = (k, r) :: F) ∨
      (HdOk seq run began bs.length ∧ ∃ a c, w = .tuple #[.slice a 512 c, .int .i64 0] ∧ Rs' = (7006, OwnB (.slice a 512 c) (hdSec seq run began bs)) :: (k, r) :: F) := by
  obtain ⟨a, c, rfl, hc, hsome, hr⟩ := hv
  refine spec_of Try.func13 rfl Try.ntmps13 rfl ?_
  intro w0 F
  rcases Classical.em (HdOk seq run began bs.length) with hH | hH
  rotate_left
  · repeat' (first | with_reducible (first | refine go1 ?_ | refine sct ?_ | refine scf ?_ | refine sgr ?_) | ((with_reducible refine sw_call (q17Ranged_ok _) ?_); rintro _ _ ⟨rfl, rfl⟩) | (with_reducible refine sc_cond (fun h => ?_) (fun h => ?_)) <;> (try (exfalso; first | contradiction | omega | exact h Iff.rfl)) | (with_reducible refine sw_guard_split (fun h => ?_) (fun h => ?_)) <;> (try (exfalso; first | contradiction | omega | exact h Iff.rfl)) | (with_reducible refine sw_pick (fun h => ?_) (fun h => ?_)) <;> (try (exfalso; first | contradiction | omega | exact h Iff.rfl)) | fail)
    all_goals first
      | (refine sq_ret2 Try.results13 ?_; exact ⟨_, .inl ⟨hH, rfl, rfl⟩, Ent.refl _⟩)
      | (exfalso; exact hH ⟨Classical.not_not.1 (by assumption), Classical.not_not.1 (by assumption), ⟨by omega, by omega⟩, by omega⟩)
  · have hH' := hH
    obtain ⟨h1, h2, h3, h4⟩ := hH
    have h1' : 0 ≤ seq ∧ seq ≤ 1099511627776 := h1
    have h2' : 0 ≤ run ∧ run ≤ 1099511627776 := h2
    have h3' : 0 ≤ began ∧ began ≤ 529964604588032 := h3
    repeat' (first | with_reducible (first | refine go1 ?_ | refine sct ?_ | refine scf ?_ | refine sgr ?_) | ((with_reducible refine sw_call (q17Ranged_ok _) ?_); rintro _ _ ⟨rfl, rfl⟩) | (with_reducible refine sc_cond (fun h => ?_) (fun h => ?_)) <;> (try (exfalso; first | contradiction | omega | exact h Iff.rfl)) | (with_reducible refine sw_guard_split (fun h => ?_) (fun h => ?_)) <;> (try (exfalso; first | contradiction | omega | exact h Iff.rfl)) | (with_reducible refine sw_pick (fun h => ?_) (fun h => ?_)) <;> (try (exfalso; first | contradiction | omega | exact h Iff.rfl)) | fail)
    have hx1 : ([] ++ le 8 seq).length ≤ 4096 := by rw [List.nil_append, le_len]; omega
    have hx2 : ([] ++ le 8 seq ++ le 8 run).length ≤ 4096 := by rw [List.nil_append, List.length_append, le_len, le_len]; omega
    have hx3 : ([] ++ le 8 seq ++ le 8 run ++ le 8 began).length ≤ 4096 := by rw [List.nil_append, List.length_append, List.length_append, le_len, le_len, le_len]; omega
    refine sw_ent (own0 7006) ?_
    refine sw_call (q17Put8 _ [] seq (by omega) (Nat.zero_le _)) ?_
    rintro _ _ ⟨⟨a1, c1, rfl⟩, rfl⟩
    repeat' (first | with_reducible (first | refine go1 ?_ | refine sct ?_ | refine scf ?_ | refine sgr ?_) | fail)
    refine sw_call (q17Put8 _ ([] ++ le 8 seq) run (by omega) hx1) ?_
    rintro _ _ ⟨⟨a2, c2, rfl⟩, rfl⟩
    repeat' (first | with_reducible (first | refine go1 ?_ | refine sct ?_ | refine scf ?_ | refine sgr ?_) | fail)
    refine sw_call (q17Put8 _ ([] ++ le 8 seq ++ le 8 run) began (by omega) hx2) ?_
    rintro _ _ ⟨⟨a3, c3, rfl⟩, rfl⟩
    repeat' (first | with_reducible (first | refine go1 ?_ | refine sct ?_ | refine scf ?_ | refine sgr ?_) | fail)
    refine sw_call (q17Put2 _ ([] ++ le 8 seq ++ le 8 run ++ le 8 began) bs.length (by omega) hx3) ?_
    rintro _ _ ⟨⟨a4, c4, rfl⟩, rfl⟩
    obtain ⟨X, hX⟩ : ∃ X, X = [] ++ le 8 seq ++ le 8 run ++ le 8 began ++ le 2 bs.length := ⟨_, rfl⟩
    have hXl : X.length = 26 := by rw [hX, List.nil_append, List.length_append, List.length_append, List.length_append, le_len, le_len, le_len, le_len]
    rw [← hX]
    repeat' (first | with_reducible (first | refine go1 ?_ | refine sct ?_ | refine scf ?_ | refine sgr ?_) | fail)
    refine sw_own 7006 fun o ho hvo => ?_
    rw [hvo]
    refine sw_appendV (kd := .u8) X bs o ho (fun w hw => hr.sat (k := k) hw) ⟨rfl, by omega, by omega⟩ fun o1 ho1 => ?_
    have ho1' : o1 = none → X ++ bs = [] := fun h => by rw [(ho1.1 h).2, ho (ho1.1 h).1]; rfl
    repeat' (first | with_reducible (first | refine go1 ?_ | refine sct ?_ | refine scf ?_ | refine sgr ?_) | fail)
    refine sc_loop (α := { y : Nat × Option (Nat × List Value) // y.1 ≤ 482 - bs.length ∧ (y.2 = none → X ++ bs ++ List.replicate y.1 0 = []) }) (fun y => [(10, bufV (X ++ bs ++ List.replicate y.1.1 0).length y.1.2)]) (fun y => oR (rG (X ++ bs ++ List.replicate y.1.1 0)) ((k, r) :: F) y.1.2) (fun y => 482 - bs.length - y.1.1)
      ⟨(0, o1), Nat.zero_le _, fun h => by rw [List.replicate_zero, List.append_nil]; exact ho1' h⟩ ?_ ?_ ?_
    · dsimp only
      rw [List.replicate_zero, List.append_nil]
      repeat' (first | exact says_nil | refine says_cons rfl ?_ | refine says_cons (by simp) ?_)
    · dsimp only
      rw [List.replicate_zero, List.append_nil]
      repeat' (first | with_reducible exact Ent.refl _ | with_reducible refine Ent.take_eq ?_ ?_ | rfl | with_reducible refine Ent.oR ?_ | with_reducible refine Ent.trans (Ent.drop _ _) ?_)
    rintro ⟨⟨j, o2⟩, hj, ho2⟩ e
    (try simp only at hj ho2)
    simp only [List.cons_append, List.nil_append]
    have hl2 : (X ++ bs ++ List.replicate j 0).length = 26 + bs.length + j := by rw [List.length_append, List.length_append, List.length_replicate, hXl]
    have hl2n : o2 = none → (X ++ bs ++ List.replicate j 0).length = 0 := fun h => by rw [ho2 h]; rfl
    repeat' (first | with_reducible (first | refine go1 ?_ | refine sct ?_ | refine scf ?_ | refine sgr ?_) | fail)
    refine sw_op (h := runop_lenV o2 hl2n) ?_
    repeat' (first | with_reducible (first | refine go1 ?_ | refine sct ?_ | refine scf ?_ | refine sgr ?_) | (with_reducible refine sc_cond (fun h => ?_) (fun h => ?_)) <;> (try (exfalso; first | contradiction | omega | exact h Iff.rfl)) | fail)
    · refine sw_buildSlice [Value.int .u8 0] (by omega) rfl fun b7 => ?_
      refine sw_appendV1 (kd := .u8) (b7 := b7) (X ++ bs ++ List.replicate j 0) 0 o2 ho2 ⟨by omega, by omega⟩ fun o3 ho3 => ?_
      have hap : X ++ bs ++ List.replicate j 0 ++ [0] = X ++ bs ++ List.replicate (j + 1) 0 := by rw [List.replicate_succ', List.append_assoc (X ++ bs)]
      rw [hap]
      repeat' (first | with_reducible (first | refine go1 ?_ | refine sct ?_ | refine scf ?_ | refine sgr ?_) | fail)
      refine sq_round ⟨(j + 1, o3), by omega, fun h => absurd h ho3⟩ ?_ ?_ ?_
      · show 482 - bs.length - (j + 1) < 482 - bs.length - j
        omega
      · repeat' (first | exact says_nil | refine says_cons rfl ?_ | refine says_cons (by simp) ?_)
      · repeat' (first | with_reducible exact Ent.refl _ | with_reducible refine Ent.take_eq ?_ ?_ | rfl | with_reducible refine Ent.oR ?_ | with_reducible refine Ent.trans (Ent.drop _ _) ?_)
    · have hj2 : j = 482 - bs.length := by omega
      subst hj2
      have hrest : X ++ bs ++ List.replicate (482 - bs.length) 0 = hdRest seq run began bs := by rw [hX]; exact hd_pieces seq run began bs
      rw [hrest] at ho2 ⊢
      have hrl := hdRest_len (seq := seq) (run := run) (began := began) h4
      have hrb := hdRest_byt (seq := seq) (run := run) (began := began) hb
      rcases o2 with _ | ⟨b2, t2⟩
      · rw [ho2 rfl] at hrl
        simp at hrl
      rw [vG_some, show bufV (hdRest seq run began bs).length (some (b2, t2)) = .slice (some ⟨b2, 0, none⟩) (hdRest seq run began bs).length ((hdRest seq run began bs).length + t2.length) from rfl]
      have had := adler_in (hdRest seq run began bs)
      repeat' (first | with_reducible (first | refine go1 ?_ | refine sct ?_ | refine scf ?_ | refine sgr ?_) | fail)
      refine sw_call (q1Sum_ok b2 _ _ (hdRest seq run began bs) (.row b2 0 _ _ (Nat.le_add_right _ _) reads_row) hrb (by omega)) ?_
      rintro _ _ ⟨rfl, rfl⟩
      repeat' (first | with_reducible refine sw_conv_i64 (by omega) ?_ | with_reducible (first | refine go1 ?_ | refine sct ?_ | refine scf ?_ | refine sgr ?_) | fail)
      refine sw_ent (own0 7006) ?_
      refine sw_call (q17Put4 _ [] (adler (hdRest seq run began bs)) (by omega) (Nat.zero_le _)) ?_
      rintro _ _ ⟨⟨a5, c5, rfl⟩, rfl⟩
      repeat' (first | with_reducible (first | refine go1 ?_ | refine sct ?_ | refine scf ?_ | refine sgr ?_) | fail)
      refine sw_own 7006 fun o6 ho6 hv6 => ?_
      rw [hv6]
      have hx5 : ([] ++ le 4 (adler (hdRest seq run began bs))).length = 4 := by rw [List.nil_append, le_len]
      refine sw_appendV (kd := .u8) ([] ++ le 4 (adler (hdRest seq run began bs))) (hdRest seq run began bs) o6 ho6 (src_pts (b := b2) (r := t2)) ⟨rfl, by omega, by omega⟩ fun o7 ho7 => ?_
      have hsec : [] ++ le 4 (adler (hdRest seq run began bs)) ++ hdRest seq run began bs = hdSec seq run began bs := rfl
      rw [hsec]
      have hsl := hdSec_len (seq := seq) (run := run) (began := began) h4
      rcases o7 with _ | ⟨b7, t7⟩
      · have := (ho7.1 rfl).2
        rw [this] at hrl
        simp at hrl
      rw [vG_some, show bufV (hdSec seq run began bs).length (some (b7, t7)) = .slice (some ⟨b7, 0, none⟩) (hdSec seq run began bs).length ((hdSec seq run began bs).length + t7.length) from rfl, hsl]
      repeat' (first | with_reducible (first | refine go1 ?_ | refine sct ?_ | refine scf ?_ | refine sgr ?_) | fail)
      refine sq_ret2 Try.results13 ?_
      refine ⟨_, .inr ⟨hH', some ⟨b7, 0, none⟩, 512 + t7.length, rfl, rfl⟩, ?_⟩
      refine Ent.trans (B := (b7, pts b7 (.cells ((hdSec seq run began bs).map (Value.int .u8) ++ t7).toArray 5 (0, 0))) :: (k, r) :: F) ?_ (Ent.rekey 7006 fun h hh => .inr ⟨b7, t7, by rw [hsl], hh⟩)
      repeat' (first | with_reducible exact Ent.refl _ | with_reducible refine Ent.take_eq ?_ ?_ | rfl | with_reducible refine Ent.oR ?_ | with_reducible refine Ent.trans (Ent.drop _ _) ?_)
end Go.Gsl

namespace Go.Gsl
set_option linter.unusedVariables false
open Go.Proofs
set_option maxHeartbeats 4000000
theorem get_cut (k : Nat) (r : HProp) {b o c : Nat} {bs : List Int} (hc : bs.length ≤ c) (hr : Reads r (some ⟨b, o, none⟩) (bs.map (Value.int .u8))) (hb : Byt bs) (l h : Nat) (hlh : l ≤ h ∧ h ≤ bs.length ∧ h - l ≤ 8) (x : Int) (hx : ofLE ((bs.drop l).take (h - l)) = x) (hm : x ≤ 4611686018427387904) :
    Spec Try.prog 60 [.slice (some ⟨b, o + l, none⟩) (h - l) (c - l)] [k] [r] fun F w Rs' => w = .int .i64 x ∧ Rs' = (k, r) :: F := by
  subst hx
  have h2 : ((bs.drop l).take (h - l)).length = h - l := by rw [List.length_take, List.length_drop]; omega
  exact q17Get_ok k r _ _ (RdB.cut hc hr l h (by omega)) (hb.sub _ _) (by omega) hm
/-- the highest byte tells how large a number of eight bytes is -/
theorem ofLE_top {bs : List Int} (hb : Byt bs) {l : Nat} {x : Int} (hx : bs[l + 7]? = some x) : x * 72057594037927936 ≤ ofLE ((bs.drop l).take 8) ∧ ofLE ((bs.drop l).take 8) < (x + 1) * 72057594037927936 := by
  have h1 : (bs.drop l).take 8 = (bs.drop l).take 7 ++ [x] := by
    rw [List.take_add_one, List.getElem?_drop, hx]; rfl
  have hl : l + 7 < bs.length := (List.getElem?_eq_some_iff.1 hx).1
  have h2 : ((bs.drop l).take 7).reverse.length = 7 := by rw [List.length_reverse, List.length_take, List.length_drop]; omega
  have h3 := ofBE_lt 7 _ h2 (fun y hy => hb.sub l 7 y (List.mem_reverse.1 hy))
  unfold ofLE
  rw [h1, List.reverse_append, List.reverse_singleton, List.singleton_append, ofBE_cons, h2]
  have h4 : ((256 ^ 7 : Nat) : Int) = 72057594037927936 := by decide
  have h5 : (256 : Int) ^ 7 = 72057594037927936 := by decide
  rw [h4] at h3
  rw [h5]
  omega
set_option maxRecDepth 20000 in
theorem q17Unhead_ok (k : Nat) (r : HProp) (v : Value) (bs : List Int) (hv : RdBx r v bs) (hb : Byt bs) (hl : bs.length ≤ 140737488355328) : Spec Try.prog 17 [v] [k] [r]
    fun F w Rs' => (unhE bs ≠ 0 ∧ w = .tuple #[.int .i64 0, .int .i64 0, .int .i64 0, .slice none 0 0, .int .i64 (unhE bs)] ∧ Rs' = (k, r) :: F) ∨
      (unhE bs = 0 ∧ ∃ a c, w = .tuple #[.int .i64 (uhSeq bs), .int .i64 (uhRun bs), .int .i64 (uhBegan bs), .slice a (uhData bs).length c, .int .i64 0] ∧ RdB r (.slice a (uhData bs).length c) (uhData bs) ∧ Rs' = (k, r) :: F) := by
  obtain ⟨a, c, rfl, hc, hsome, hr⟩ := hv
  refine spec_of Try.func17 rfl Try.ntmps17 rfl ?_
  intro w0 F
  repeat' (first | with_reducible (first | refine go1 ?_ | refine sct ?_ | refine scf ?_ | refine sgr ?_) | (with_reducible refine sc_cond (fun h => ?_) (fun h => ?_)) <;> (try (exfalso; first | contradiction | omega | exact h Iff.rfl)) | fail)
  · refine sq_ret5 Try.results17 ?_
    have hE : unhE bs = 1 := by unfold unhE; rw [if_pos (by omega)]
    rw [hE]
    exact ⟨_, .inl ⟨by decide, rfl, rfl⟩, Ent.refl _⟩
  have hL : bs.length = 512 := by omega
  obtain ⟨b, o, rfl⟩ := hsome (by omega)
  have hw := ofLE_u64 hb 0 4 (by omega)
  have hw4 : ofLE (bs.take 4) < 4294967296 := by
    have := ofLE_in (xs := bs.take 4) (fun x hx => hb x (List.mem_of_mem_take hx))
    rw [List.length_take, hL] at this
    exact this.2
  have B0 := get_cut k r hc hr hb 0 4 (by omega) (ofLE (bs.take 4)) rfl (by omega)
  have ha := adler_in (bs.drop 4)
  refine sc_lin ([(k, r)]) (llp 0 (llp 1 (llp 3 (llp 4 (lle 2 (lle 5 (llp 6 (llp 7 ll0)))))))) (by kernel_rfl) rfl (by kernel_rfl) ?_
  all_goals refine go1l ?_
  all_goals refine sl_take (h := runop_slice 0 4 c (o + 0) (by omega) ⟨rfl, rfl, rfl, by split <;> omega⟩) ?_
  all_goals refine go1l ?_
  all_goals refine sl_take (h := runop_slice 4 bs.length c (o + 4) (by omega) ⟨rfl, rfl, rfl, by split <;> omega⟩) ?_
  all_goals refine sl_eff ?_
  all_goals (repeat' (first | with_reducible (first | refine go1 ?_ | refine sct ?_ | refine scf ?_ | refine sgr ?_) | ((with_reducible refine sw_call (q1Sum_ok k r _ (bs.drop 4) (RdB.tl hc hr 4 (by omega)) (hb.dr 4) (by rw [List.length_drop]; omega)) ?_); rintro _ _ ⟨rfl, rfl⟩) | ((with_reducible refine sw_call B0 ?_); rintro _ _ ⟨rfl, rfl⟩) | with_reducible refine sl_back ?_ | fail))
  all_goals refine sl_eff ?_
  all_goals (repeat' (first | with_reducible (first | refine go1 ?_ | refine sct ?_ | refine scf ?_ | refine sgr ?_) | ((with_reducible refine sw_call (q1Sum_ok k r _ (bs.drop 4) (RdB.tl hc hr 4 (by omega)) (hb.dr 4) (by rw [List.length_drop]; omega)) ?_); rintro _ _ ⟨rfl, rfl⟩) | ((with_reducible refine sw_call B0 ?_); rintro _ _ ⟨rfl, rfl⟩) | with_reducible refine sl_back ?_ | fail))
  all_goals (first | refine sl_in (by omega) ?_ | refine go1l ?_)
  all_goals refine go1l ?_
  all_goals refine sl_done ?_
  repeat' (first | with_reducible (first | refine go1 ?_ | refine sct ?_ | refine scf ?_ | refine sgr ?_) | (with_reducible refine sc_cond (fun h => ?_) (fun h => ?_)) <;> (try (exfalso; first | contradiction | omega | exact h Iff.rfl)) | fail)
  · refine sq_ret5 Try.results17 ?_
    have hE : unhE bs = 12 := by unfold unhE; rw [if_neg (by omega), if_pos (fun h' => h h'.symm)]
    rw [hE]
    refine ⟨_, .inl ⟨by decide, rfl, rfl⟩, ?_⟩
    repeat' (first | with_reducible exact Ent.refl _ | with_reducible refine Ent.take_eq ?_ ?_ | rfl | with_reducible refine Ent.oR ?_ | with_reducible refine Ent.trans (Ent.drop _ _) ?_)
  have hne : ¬ adler (bs.drop 4) ≠ ofLE (bs.take 4) := fun h' => h fun h2 => h' h2.symm
  have hE0 : unhE bs = if UhOk bs then 0 else 11 := by
    unfold unhE
    rw [if_neg (by omega), if_neg hne]
  obtain ⟨x1, hx1⟩ : ∃ x, bs[11]? = some x := ⟨_, List.getElem?_eq_getElem (by omega)⟩
  obtain ⟨x2, hx2⟩ : ∃ x, bs[19]? = some x := ⟨_, List.getElem?_eq_getElem (by omega)⟩
  obtain ⟨x3, hx3⟩ : ∃ x, bs[27]? = some x := ⟨_, List.getElem?_eq_getElem (by omega)⟩
  have t1 : x1 * 72057594037927936 ≤ uhSeq bs ∧ uhSeq bs < (x1 + 1) * 72057594037927936 := ofLE_top hb (l := 4) hx1
  have t2 : x2 * 72057594037927936 ≤ uhRun bs ∧ uhRun bs < (x2 + 1) * 72057594037927936 := ofLE_top hb (l := 12) hx2
  have t3 : x3 * 72057594037927936 ≤ uhBegan bs ∧ uhBegan bs < (x3 + 1) * 72057594037927936 := ofLE_top hb (l := 20) hx3
  have u1 := ofLE_u64 hb 4 8 (by omega)
  have u2 := ofLE_u64 hb 12 8 (by omega)
  have u3 := ofLE_u64 hb 20 8 (by omega)
  have u4 := ofLE_u16 hb 28
  have hn : ofLE ((bs.drop 28).take 2) = (uhN bs : Int) := by
    unfold uhN
    omega
  have hat : ∀ (i : Nat) (x : Int), bs[i]? = some x → (bs.map (Value.int .u8))[i]? = some (.int .u8 x) := fun i x h => by rw [List.getElem?_map, h]; rfl
  refine sw_index (by omega) ?_
  refine sw_load_rd k 11 (.int .u8 x1) hr (hat 11 x1 hx1) (by omega) ?_
  repeat' (first | with_reducible (first | refine go1 ?_ | refine sct ?_ | refine scf ?_ | refine sgr ?_) | with_reducible refine sw_index (by omega) ?_ | (with_reducible refine sw_guard_split (fun h => ?_) (fun h => ?_)) <;> (try (exfalso; first | contradiction | omega | exact h Iff.rfl)) | (with_reducible refine sc_cond (fun h => ?_) (fun h => ?_)) <;> (try (exfalso; first | contradiction | omega | exact h Iff.rfl)) | (with_reducible refine sw_pick (fun h => ?_) (fun h => ?_)) <;> (try (exfalso; first | contradiction | omega | exact h Iff.rfl)) | fail)
  · have hE : unhE bs = 11 := by rw [hE0, if_neg (fun hx => by have := hx.1.1.2; omega)]
    rw [hE]
    refine sq_ret5 Try.results17 ?_
    refine ⟨_, .inl ⟨by decide, rfl, rfl⟩, ?_⟩
    repeat' (first | with_reducible exact Ent.refl _ | with_reducible refine Ent.take_eq ?_ ?_ | rfl | with_reducible refine Ent.oR ?_ | with_reducible refine Ent.trans (Ent.drop _ _) ?_)
  refine sw_load_rd k 19 (.int .u8 x2) hr (hat 19 x2 hx2) (by omega) ?_
  repeat' (first | with_reducible (first | refine go1 ?_ | refine sct ?_ | refine scf ?_ | refine sgr ?_) | with_reducible refine sw_index (by omega) ?_ | (with_reducible refine sw_guard_split (fun h => ?_) (fun h => ?_)) <;> (try (exfalso; first | contradiction | omega | exact h Iff.rfl)) | (with_reducible refine sc_cond (fun h => ?_) (fun h => ?_)) <;> (try (exfalso; first | contradiction | omega | exact h Iff.rfl)) | (with_reducible refine sw_pick (fun h => ?_) (fun h => ?_)) <;> (try (exfalso; first | contradiction | omega | exact h Iff.rfl)) | fail)
  · have hE : unhE bs = 11 := by rw [hE0, if_neg (fun hx => by have := hx.1.2.1.2; omega)]
    rw [hE]
    refine sq_ret5 Try.results17 ?_
    refine ⟨_, .inl ⟨by decide, rfl, rfl⟩, ?_⟩
    repeat' (first | with_reducible exact Ent.refl _ | with_reducible refine Ent.take_eq ?_ ?_ | rfl | with_reducible refine Ent.oR ?_ | with_reducible refine Ent.trans (Ent.drop _ _) ?_)
  refine sw_load_rd k 27 (.int .u8 x3) hr (hat 27 x3 hx3) (by omega) ?_
  repeat' (first | with_reducible (first | refine go1 ?_ | refine sct ?_ | refine scf ?_ | refine sgr ?_) | (with_reducible refine sw_guard_split (fun h => ?_) (fun h => ?_)) <;> (try (exfalso; first | contradiction | omega | exact h Iff.rfl)) | (with_reducible refine sc_cond (fun h => ?_) (fun h => ?_)) <;> (try (exfalso; first | contradiction | omega | exact h Iff.rfl)) | (with_reducible refine sw_pick (fun h => ?_) (fun h => ?_)) <;> (try (exfalso; first | contradiction | omega | exact h Iff.rfl)) | fail)
  · have hE : unhE bs = 11 := by rw [hE0, if_neg (fun hx => by have := hx.1.2.2.1.2; omega)]
    rw [hE]
    refine sq_ret5 Try.results17 ?_
    refine ⟨_, .inl ⟨by decide, rfl, rfl⟩, ?_⟩
    repeat' (first | with_reducible exact Ent.refl _ | with_reducible refine Ent.take_eq ?_ ?_ | rfl | with_reducible refine Ent.oR ?_ | with_reducible refine Ent.trans (Ent.drop _ _) ?_)
  have hy1 := hb x1 (List.mem_of_getElem? hx1)
  have hy2 := hb x2 (List.mem_of_getElem? hx2)
  have hy3 := hb x3 (List.mem_of_getElem? hx3)
  have B1 := get_cut k r hc hr hb 4 12 (by omega) (uhSeq bs) rfl (by omega)
  have B2 := get_cut k r hc hr hb 12 20 (by omega) (uhRun bs) rfl (by omega)
  have B3 := get_cut k r hc hr hb 20 28 (by omega) (uhBegan bs) rfl (by omega)
  have B4 := get_cut k r hc hr hb 28 30 (by omega) (uhN bs) hn (by omega)
  refine sc_lin ([(k, r)]) (llp 0 (llp 1 (llp 3 (llp 4 (llp 6 (llp 7 (llp 9 (llp 10 (lle 2 (lle 5 (lle 8 (lle 11 (llp 12 (llp 13 (llp 14 (llp 15 ll0)))))))))))))))) (by kernel_rfl) rfl (by kernel_rfl) ?_
  all_goals refine go1l ?_
  all_goals refine sl_take (h := runop_slice 4 12 c (o + 4) (by omega) ⟨rfl, rfl, rfl, by split <;> omega⟩) ?_
  all_goals refine go1l ?_
  all_goals refine sl_take (h := runop_slice 12 20 c (o + 12) (by omega) ⟨rfl, rfl, rfl, by split <;> omega⟩) ?_
  all_goals refine go1l ?_
  all_goals refine sl_take (h := runop_slice 20 28 c (o + 20) (by omega) ⟨rfl, rfl, rfl, by split <;> omega⟩) ?_
  all_goals refine go1l ?_
  all_goals refine sl_take (h := runop_slice 28 30 c (o + 28) (by omega) ⟨rfl, rfl, rfl, by split <;> omega⟩) ?_
  all_goals refine sl_eff ?_
  all_goals (repeat' (first | with_reducible (first | refine go1 ?_ | refine sct ?_ | refine scf ?_ | refine sgr ?_) | ((with_reducible refine sw_call B1 ?_); rintro _ _ ⟨rfl, rfl⟩) | ((with_reducible refine sw_call B2 ?_); rintro _ _ ⟨rfl, rfl⟩) | ((with_reducible refine sw_call B3 ?_); rintro _ _ ⟨rfl, rfl⟩) | ((with_reducible refine sw_call B4 ?_); rintro _ _ ⟨rfl, rfl⟩) | with_reducible refine sl_back ?_ | fail))
  all_goals refine sl_eff ?_
  all_goals (repeat' (first | with_reducible (first | refine go1 ?_ | refine sct ?_ | refine scf ?_ | refine sgr ?_) | ((with_reducible refine sw_call B1 ?_); rintro _ _ ⟨rfl, rfl⟩) | ((with_reducible refine sw_call B2 ?_); rintro _ _ ⟨rfl, rfl⟩) | ((with_reducible refine sw_call B3 ?_); rintro _ _ ⟨rfl, rfl⟩) | ((with_reducible refine sw_call B4 ?_); rintro _ _ ⟨rfl, rfl⟩) | with_reducible refine sl_back ?_ | fail))
  all_goals refine sl_eff ?_
  all_goals (repeat' (first | with_reducible (first | refine go1 ?_ | refine sct ?_ | refine scf ?_ | refine sgr ?_) | ((with_reducible refine sw_call B1 ?_); rintro _ _ ⟨rfl, rfl⟩) | ((with_reducible refine sw_call B2 ?_); rintro _ _ ⟨rfl, rfl⟩) | ((with_reducible refine sw_call B3 ?_); rintro _ _ ⟨rfl, rfl⟩) | ((with_reducible refine sw_call B4 ?_); rintro _ _ ⟨rfl, rfl⟩) | with_reducible refine sl_back ?_ | fail))
  all_goals refine sl_eff ?_
  all_goals (repeat' (first | with_reducible (first | refine go1 ?_ | refine sct ?_ | refine scf ?_ | refine sgr ?_) | ((with_reducible refine sw_call B1 ?_); rintro _ _ ⟨rfl, rfl⟩) | ((with_reducible refine sw_call B2 ?_); rintro _ _ ⟨rfl, rfl⟩) | ((with_reducible refine sw_call B3 ?_); rintro _ _ ⟨rfl, rfl⟩) | ((with_reducible refine sw_call B4 ?_); rintro _ _ ⟨rfl, rfl⟩) | with_reducible refine sl_back ?_ | fail))
  all_goals (iterate 4 refine go1l ?_)
  all_goals refine sl_done ?_
  repeat' (first | with_reducible refine sw_i64 (by omega) ?_ | with_reducible (first | refine go1 ?_ | refine sct ?_ | refine scf ?_ | refine sgr ?_) | ((with_reducible refine sw_call (q17Ranged_ok _) ?_); rintro _ _ ⟨rfl, rfl⟩) | (with_reducible refine sw_guard_split (fun h => ?_) (fun h => ?_)) <;> (try (exfalso; first | contradiction | omega | exact h Iff.rfl)) | (with_reducible refine sc_cond (fun h => ?_) (fun h => ?_)) <;> (try (exfalso; first | contradiction | omega | exact h Iff.rfl)) | (with_reducible refine sw_pick (fun h => ?_) (fun h => ?_)) <;> (try (exfalso; first | contradiction | omega | exact h Iff.rfl)) | fail)
  · have hE : unhE bs = 11 := by rw [hE0, if_neg (fun hx => by have := hx.1.1; contradiction)]
    rw [hE]
    refine sq_ret5 Try.results17 ?_
    refine ⟨_, .inl ⟨by decide, rfl, rfl⟩, ?_⟩
    repeat' (first | with_reducible exact Ent.refl _ | with_reducible refine Ent.take_eq ?_ ?_ | rfl | with_reducible refine Ent.oR ?_ | with_reducible refine Ent.trans (Ent.drop _ _) ?_)
  · have hE : unhE bs = 11 := by rw [hE0, if_neg (fun hx => by have := hx.1.2.1; contradiction)]
    rw [hE]
    refine sq_ret5 Try.results17 ?_
    refine ⟨_, .inl ⟨by decide, rfl, rfl⟩, ?_⟩
    repeat' (first | with_reducible exact Ent.refl _ | with_reducible refine Ent.take_eq ?_ ?_ | rfl | with_reducible refine Ent.oR ?_ | with_reducible refine Ent.trans (Ent.drop _ _) ?_)
  · have hE : unhE bs = 11 := by rw [hE0, if_neg (fun hx => by have := hx.1.2.2.1.2; omega)]
    rw [hE]
    refine sq_ret5 Try.results17 ?_
    refine ⟨_, .inl ⟨by decide, rfl, rfl⟩, ?_⟩
    repeat' (first | with_reducible exact Ent.refl _ | with_reducible refine Ent.take_eq ?_ ?_ | rfl | with_reducible refine Ent.oR ?_ | with_reducible refine Ent.trans (Ent.drop _ _) ?_)
  · have hE : unhE bs = 11 := by rw [hE0, if_neg (fun hx => by have := hx.1.2.2.2; omega)]
    rw [hE]
    refine sq_ret5 Try.results17 ?_
    refine ⟨_, .inl ⟨by decide, rfl, rfl⟩, ?_⟩
    repeat' (first | with_reducible exact Ent.refl _ | with_reducible refine Ent.take_eq ?_ ?_ | rfl | with_reducible refine Ent.oR ?_ | with_reducible refine Ent.trans (Ent.drop _ _) ?_)
  have hn482 : uhN bs ≤ 482 := by omega
  have hHd : HdOk (uhSeq bs) (uhRun bs) (uhBegan bs) (uhN bs) := ⟨Classical.not_not.1 (by assumption), Classical.not_not.1 (by assumption), ⟨by show 0 ≤ uhBegan bs; unfold uhBegan; omega, by omega⟩, hn482⟩
  have hUh : UhOk bs ↔ AllZ (bs.drop (30 + uhN bs)) := ⟨fun hx => hx.2, fun hx => ⟨hHd, hx⟩⟩
  obtain ⟨N, hN⟩ : ∃ N, N = uhN bs := ⟨_, rfl⟩
  have s1 : 0 ≤ uhSeq bs ∧ uhSeq bs ≤ 1099511627776 := hHd.1
  refine sc_loop (α := { j : Nat // 30 + N + j ≤ 512 ∧ AllZ ((bs.drop (30 + N)).take j) }) (fun j => [(0, .slice (some ⟨b, o, none⟩) bs.length c), (7, .int .i64 (uhSeq bs)), (8, .int .i64 (uhRun bs)), (9, .int .i64 (uhBegan bs)), (10, .int .i64 N), (11, .int .i64 (30 + N + j.1 : Nat))])
    (fun _ => (k, r) :: F) (fun j => 512 - (30 + N + j.1)) ⟨0, by omega, fun x hx => by simp at hx⟩ ?_ ?_ ?_
  · dsimp only
    rw [← hN, show ((30 + N + 0 : Nat) : Int) = 30 + (N : Int) by omega]
    repeat' (first | exact says_nil | refine says_cons rfl ?_ | refine says_cons (by simp) ?_)
  · exact Ent.refl _
  rintro ⟨j, hj, hz⟩ e
  (try simp only at hj hz)
  simp only [List.cons_append, List.nil_append]
  repeat' (first | with_reducible (first | refine go1 ?_ | refine sct ?_ | refine scf ?_ | refine sgr ?_) | (with_reducible refine sc_cond (fun h => ?_) (fun h => ?_)) <;> (try (exfalso; first | contradiction | omega | exact h Iff.rfl)) | fail)
  · obtain ⟨x, hx⟩ : ∃ x, bs[30 + N + j]? = some x := ⟨_, List.getElem?_eq_getElem (by omega)⟩
    have hxd : (bs.drop (30 + N))[j]? = some x := by rw [List.getElem?_drop]; exact hx
    refine sw_index (by omega) ?_
    refine sw_load_rd k (30 + N + j) (.int .u8 x) hr (hat _ x hx) (by omega) ?_
    repeat' (first | with_reducible refine sw_i64 (by omega) ?_ | with_reducible (first | refine go1 ?_ | refine sct ?_ | refine scf ?_ | refine sgr ?_) | (with_reducible refine sc_cond (fun h => ?_) (fun h => ?_)) <;> (try (exfalso; first | contradiction | omega | exact h Iff.rfl)) | fail)
    · have hE : unhE bs = 11 := by rw [hE0, if_neg (fun hx' => h (hUh.1 hx' x (by rw [← hN]; exact List.mem_of_getElem? hxd)))]
      rw [hE]
      refine sq_ret5 Try.results17 ?_
      refine ⟨_, .inl ⟨by decide, rfl, rfl⟩, ?_⟩
      repeat' (first | with_reducible exact Ent.refl _ | with_reducible refine Ent.take_eq ?_ ?_ | rfl | with_reducible refine Ent.oR ?_ | with_reducible refine Ent.trans (Ent.drop _ _) ?_)
    · refine sq_round ⟨j + 1, by omega, hz.snoc hxd (Classical.not_not.1 h)⟩ ?_ ?_ ?_
      · show 512 - (30 + N + (j + 1)) < 512 - (30 + N + j)
        omega
      · rw [show ((30 + N + (j + 1) : Nat) : Int) = ((30 + N + j : Nat) : Int) + 1 by omega]
        repeat' (first | exact says_nil | refine says_cons rfl ?_ | refine says_cons (by simp) ?_)
      · exact Ent.refl _
  · have hall : AllZ (bs.drop (30 + N)) := by
      rwa [List.take_of_length_le (by rw [List.length_drop]; omega)] at hz
    have hE : unhE bs = 0 := by rw [hE0, if_pos (hUh.2 (by rw [← hN]; exact hall))]
    have hsub := RdB.sub hc hr 30 N (by omega)
    have hln : ((bs.drop 30).take N).length = N := by rw [List.length_take, List.length_drop]; omega
    refine sc_lin ([(k, r)]) (llp 0 (llp 1 (llp 2 (llp 3 (llp 4 (llp 5 (llp 6 (llp 7 (llp 8 (llp 9 (llp 10 (llp 11 ll0)))))))))))) (by kernel_rfl) rfl (by kernel_rfl) ?_
    all_goals (iterate 5 refine go1l ?_)
    all_goals (first | refine sl_in (by omega) ?_ | refine go1l ?_)
    all_goals refine sl_take (h := runop_slice 30 (30 + N) c (o + 30) (by omega) ⟨rfl, by omega, rfl, by split <;> omega⟩) ?_
    all_goals (iterate 5 refine go1l ?_)
    all_goals refine sl_done ?_
    repeat' (first | with_reducible (first | refine go1 ?_ | refine sct ?_ | refine scf ?_ | refine sgr ?_) | fail)
    refine sq_ret5 Try.results17 ?_
    rw [hE]
    refine ⟨_, .inr ⟨rfl, some ⟨b, o + 30, none⟩, c - 30, ?_, ?_, rfl⟩, Ent.refl _⟩
    · unfold uhData
      rw [← hN, hln, show 30 + N - 30 = N by omega]
    · unfold uhData
      rw [← hN]
      exact hsub
end Go.Gsl
