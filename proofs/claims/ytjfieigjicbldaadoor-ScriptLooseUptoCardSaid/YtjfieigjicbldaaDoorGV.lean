/- A byte's place in a text: from the kit's contract. -/
import Derived.Test.YtjfieigjicbldaaDoorGN
import Derived.Test.YtjfieigjicbldaaDoorGG
import Derived.Test.YtjfieigjicbldaaDoorGB
import Derived.Shelf.Lay
import Derived.Shelf.Small.Strs
import Derived.Ground.NamesProg
import Derived.Test.YtjfieigjicbldaaDoorGI
import Derived.Test.YtjfieigjicbldaaDoorGE
import Derived.Shelf.Strconv.AtoiAll
import Derived.Shelf.Strconv.ErrVarAll
import Derived.Shelf.Strconv.Itoa3
namespace Go.Gsl
set_option linter.unusedVariables false
open Go.Proofs Go.Shelf

shelf_lay Lays.n137 Nm 137 at Tryd as Tryd.laysIdx

theorem idxByte_ok (s : Bs) (c : UInt8) : Spec Tryd.prog 81 [.string (sB s), .int .u8 (iv c)] [] [] fun F v Rs' => v = .int .i64 (Lib.indexByte s c) ∧ Rs' = F := by
  intro w0 F w hw
  refine Calls.mono (Any.strings_IndexByte Tryd.laysIdx (sB s) (iv c) w) ?_
  rintro e w' ⟨rfl, rfl⟩
  refine ⟨_, _, rfl, ⟨?_, rfl⟩, hw⟩
  have : (iv c).toNat.toUInt8 = c := ofNat_iv c
  rw [this]

theorem hex_lt (c : UInt8) : Lib.indexByte digs c < 16 := by
  have h : ∀ k : Fin 256, Lib.indexByte digs (UInt8.ofNat k.val) < 16 := by decide +kernel
  have := h ⟨c.toNat, c.toNat_lt⟩
  rwa [UInt8.ofNat_toNat] at this
theorem hex_or (a b : Int) (ha : 0 ≤ a ∧ a < 16) (hb : 0 ≤ b ∧ b < 16) : ior .i64 (a * 16) b = a * 16 + b := by
  have h : ∀ x y : Fin 16, ior .i64 ((x.val : Int) * 16) (y.val : Int) = (x.val : Int) * 16 + (y.val : Int) := by decide +kernel
  have := h ⟨a.toNat, by omega⟩ ⟨b.toNat, by omega⟩
  simp only at this
  rwa [show ((a.toNat : Nat) : Int) = a by omega, show ((b.toNat : Nat) : Int) = b by omega] at this

section
variable {P : Program} {ops : List Oper} {Q : Cont} {n : Nat} {w0 : World} {rest : List Oper} {e : Env} {Rs F : List Res} {ty : TypeId}
theorem bufV_reads {el : TypeId} {acc : Bs} {o : Option (Nat × List Value)} {kd : IntKind} (ho : o = none → acc = []) [tk : TakeO Rs (vG kd el (acc.map iv)) o F] :
    ∃ a c, bufV (acc.map iv).length o = .slice a (acc.map iv).length c ∧ ∀ w, Sat w0 w Rs → ∀ j v, ((acc.map iv).map (Value.int kd))[j]? = some v → ∃ ad, a = some ad ∧ w.cell? (ad.add j) = some v := by
  cases o with
  | none =>
    rw [ho rfl]
    exact ⟨none, 0, rfl, fun w hw j v hj => by simp at hj⟩
  | some x =>
    obtain ⟨b, t⟩ := x
    refine ⟨some ⟨b, 0, none⟩, _, rfl, fun w hw j v hj => ⟨_, rfl, ?_⟩⟩
    have h1 := (hw.ent tk.ent).get (Take.here b _ F)
    rw [add_plain, Nat.zero_add]
    refine cell_of h1 ?_
    simp only [List.getElem?_toArray]
    rw [List.getElem?_append_left (List.getElem?_eq_some_iff.1 hj).1]
    exact hj
/-- string(b), b being nil or a row of one's own -/
theorem sw_bytesV {d : Nat} {s u el el' : TypeId} {x : Operand} {pos : String} {after : Array Edge} (acc : Bs) (o : Option (Nat × List Value)) (ho : o = none → acc = [])
    [hx : Ev n e x (bufV (acc.map iv).length o)] [hs : Und P s (.slice el)] [he : Und P el (.int .u8)] [hu : Und P u .string] [tk : TakeO Rs (vG .u8 el' (acc.map iv)) o F]
    (q : SW P ops Q n w0 rest ((d, .string ⟨acc.toArray⟩) :: e) Rs) : SW P ops Q n w0 ({ dst := some d, op := .convert s u x, type := ty, pos := pos, after := after, guard := none } :: rest) e Rs := by
  obtain ⟨a, c, hv, hr⟩ := bufV_reads (w0 := w0) (Rs := Rs) (F := F) (el := el') (kd := .u8) ho
  have hx' : Ev n e x (.slice a (acc.map iv).length c) := ⟨by rw [← hv]; exact hx.out⟩
  have e1 : strB (acc.map iv) = ⟨acc.toArray⟩ := strB_iv acc
  refine sw_bytes (acc.map iv) hr rfl ?_
  rw [e1]
  exact q
/-- []T{x} -/
theorem sw_build1 {d : Nat} {t el : TypeId} {nb : Nat} {x : Operand} {v : Value} {z : Value} {pos : String} {after : Array Edge} [hx : Ev n e x v] [ho : One v] [he : Elem P t el 1 nb z] [hz : One z]
    (k : ∀ b, SW P ops Q n w0 rest ((d, .slice (some ⟨b, 0, none⟩) 1 1) :: e) ((b, pts b (.cells [v].toArray el (0, 0))) :: Rs)) :
    SW P ops Q n w0 ({ dst := some d, op := .buildSlice t 1 [(0, x)].toArray, type := ty, pos := pos, after := after, guard := none } :: rest) e Rs :=
  sw_buildSlice (vs := [(0, v)]) [v] (by omega) (by
    have h1 : v.cells = #[v] := cells_one ho.out
    simp [Instr.fill, h1]) k
end
theorem idx0 {l : Bs} (h : ¬ l = []) : (0 : Int) ≤ 0 ∧ (0 : Int) < l.length := ⟨by omega, by
  cases l with
  | nil => exact absurd rfl h
  | cons a l => simp only [List.length_cons]; omega⟩
theorem drop_getD {s : Bs} {i : Nat} (h : i < s.length) : s.drop i = s.getD i 0 :: s.drop (i + 1) := by
  rw [List.drop_eq_getElem_cons h, List.getD_eq_getElem?_getD, List.getElem?_eq_getElem h]; rfl
end Go.Gsl

namespace Go.Gsl
set_option linter.unusedVariables false
open Go.Proofs

theorem head_iv {l : Bs} (h : ¬ l = []) : l.head? = some 32 ↔ iv (l.getD 0 0) = 32 := by
  cases l with
  | nil => exact absurd rfl h
  | cons a l =>
    simp only [List.head?_cons, Option.some.injEq, List.getD_cons_zero]
    constructor
    · rintro rfl; rfl
    · intro h; exact iv_inj h

theorem tn1 (i : Nat) : ((i : Int) + 1).toNat = i + 1 := by omega
theorem tn2 (i : Nat) : ((i : Int) + 2).toNat = i + 2 := by omega
theorem tn3 (i : Nat) : ((i : Int) + 3).toNat = i + 3 := by omega
section
variable {acc r : Bs} {x y : UInt8}
theorem unq_q (hx : iv x = 34) (h : r = []) : unq acc (x :: r) = some (acc, r) := by rw [unq_cons, if_pos hx, if_pos (.inl h)]
theorem unq_q2 (hx : iv x = 34) (h : ¬ r = []) (h2 : iv (r.getD 0 0) = 32) : unq acc (x :: r) = some (acc, r) := by rw [unq_cons, if_pos hx, if_pos (.inr ((head_iv h).2 h2))]
theorem unq_qn (hx : iv x = 34) (h : ¬ r = []) (h2 : ¬ iv (r.getD 0 0) = 32) : unq acc (x :: r) = none := by
  rw [unq_cons, if_pos hx, if_neg]
  rintro (g | g)
  · exact h g
  · exact h2 ((head_iv h).1 g)
theorem unq_c (hx : ¬ iv x = 34) (h : ¬ iv x = 92) : unq acc (x :: r) = unq (acc ++ [x]) r := by rw [unq_cons, if_neg hx, if_pos h]
theorem unq_e (hx : ¬ iv x = 34) (h : iv x = 92) (hy : iv y = 34 ∨ iv y = 92) : unq acc (x :: y :: r) = unq (acc ++ [y]) r := by rw [unq_cons, if_neg hx, if_neg (by simp [h])]; simp only; rw [if_pos hy]
theorem unq_e1 (hx : ¬ iv x = 34) (h : iv x = 92) (hy : iv y = 34) : unq acc (x :: y :: r) = unq (acc ++ [y]) r := unq_e hx h (.inl hy)
theorem unq_e2 (hx : ¬ iv x = 34) (h : iv x = 92) (hy : iv y = 92) : unq acc (x :: y :: r) = unq (acc ++ [y]) r := unq_e hx h (.inr hy)
theorem unq_b1 (hx : ¬ iv x = 34) (h : iv x = 92) : unq acc [x] = none := by rw [unq_cons, if_neg hx, if_neg (by simp [h])]
theorem unq_b2 (hx : ¬ iv x = 34) (h : iv x = 92) (hy : ¬ iv y = 34) (hy2 : ¬ iv y = 92) (hr : r.length < 2) : unq acc (x :: y :: r) = none := by
  rw [unq_cons, if_neg hx, if_neg (by simp [h])]
  simp only
  rw [if_neg (by rintro (g | g) <;> contradiction)]
  match r, hr with
  | [], _ => rfl
  | [_], _ => rfl
  | _ :: _ :: _, hr => simp only [List.length_cons] at hr; omega
theorem unq_b3 (hx : ¬ iv x = 34) (h : iv x = 92) (hy : ¬ iv y = 34) (hy2 : ¬ iv y = 92) (hy3 : ¬ iv y = 120) : unq acc (x :: y :: r) = none := by
  rw [unq_cons, if_neg hx, if_neg (by simp [h])]
  simp only
  rw [if_neg (by rintro (g | g) <;> contradiction)]
  match r with
  | [] => rfl
  | [_] => rfl
  | _ :: _ :: _ => simp only; rw [if_neg hy3]
theorem unq_x {a b : UInt8} (hx : ¬ iv x = 34) (h : iv x = 92) (hy3 : iv y = 120) : unq acc (x :: y :: a :: b :: r) = if Lib.indexByte digs a < 0 ∨ Lib.indexByte digs b < 0 then none
    else unq (acc ++ [UInt8.ofNat (16 * (Lib.indexByte digs a).toNat + (Lib.indexByte digs b).toNat)]) r := by
  rw [unq_cons, if_neg hx, if_neg (by simp [h])]
  simp only
  rw [if_neg (by rintro (g | g) <;> omega), if_pos hy3]
end

set_option maxHeartbeats 2000000 in
theorem sUnq_ok (s : Bs) (h1 : 1 ≤ s.length) (h2 : s.length ≤ 1073741824) : SpecP Tryd.prog 67 [.string (sB s)] [] []
    (fun F v Rs' => ∃ t r, unq [] (s.drop 1) = some (t, r) ∧ v = .tuple #[.string (sB t), .string (sB r)] ∧ Rs' = F)
    (fun F v Rs' => unq [] (s.drop 1) = none ∧ v = .iface 27 (.int .i64 261) ∧ Rs' = F) := by
  refine spec_ofP Tryd.func67 rfl Tryd.ntmps67 rfl ?_
  intro w0 F
  repeat' (first | with_reducible (first | refine go1 ?_ | refine sct ?_ | refine scf ?_ | refine sgr ?_) | fail)
  refine sc_loop (α := { x : Nat × Bs × Option (Nat × List Value) // 1 ≤ x.1 ∧ x.1 ≤ s.length ∧ x.2.1.length ≤ x.1 ∧ (x.2.2 = none → x.2.1 = []) ∧ unq x.2.1 (s.drop x.1) = unq [] (s.drop 1) })
    (fun x => [(0, .string (sB s)), (5, .int .i64 (x.1.1 : Int)), (4, bufV (x.1.2.1.map iv).length x.1.2.2)])
    (fun x => oR (vG .u8 5 (x.1.2.1.map iv)) F x.1.2.2) (fun x => s.length - x.1.1) ⟨(1, [], none), Nat.le_refl _, h1, Nat.zero_le _, fun _ => rfl, rfl⟩ ?_ ?_ ?_
  · repeat' (first | exact says_nil | refine says_cons rfl ?_ | refine says_cons (by simp) ?_)
  · exact Ent.refl _
  rintro ⟨⟨i, acc, o⟩, hi1, hi2, hi3, ho, hu⟩ e
  simp only at hi1 hi2 hi3 ho hu
  simp only [List.cons_append, List.nil_append]
  have hol : o = none → acc.map iv = [] := fun h => by rw [ho h]; rfl
  have hal : (acc.map iv).length = acc.length := List.length_map ..
  have hd0 : i < s.length → s.drop i = s.getD i 0 :: s.drop (i + 1) := drop_getD
  have hd1 : i + 1 < s.length → s.drop (i + 1) = s.getD (i + 1) 0 :: s.drop (i + 2) := drop_getD
  have hd2 : i + 2 < s.length → s.drop (i + 2) = s.getD (i + 2) 0 :: s.drop (i + 3) := drop_getD
  have hd3 : i + 3 < s.length → s.drop (i + 3) = s.getD (i + 3) 0 :: s.drop (i + 4) := drop_getD
  repeat' (first | with_reducible refine sw_in (by omega) ?_ | with_reducible (first | refine go1 ?_ | refine sct ?_ | refine scf ?_ | refine sgr ?_) | with_reducible refine sw_op (h := runop_sget (by first | omega | exact idx0 (by assumption))) ?_ | with_reducible refine sw_op (h := runop_sfrom (by omega)) ?_ | with_reducible refine sw_build1 fun b7 => ?_ | with_reducible refine sw_panic ?_ | with_reducible refine sw_bytesV (el' := 5) (F := F) acc o ho ?_ | with_reducible refine sw_guard_skip_u ?_ | (with_reducible refine sc_cond (fun h => ?_) (fun h => ?_)) <;> (try (exfalso; first | contradiction | omega | exact h Iff.rfl)) | (with_reducible refine sw_guard_split (fun h => ?_) (fun h => ?_)) <;> (try (exfalso; first | contradiction | omega | exact h Iff.rfl)) | (with_reducible refine sw_pick (fun h => ?_) (fun h => ?_)) <;> (try (exfalso; first | contradiction | omega | exact h Iff.rfl)) | fail)
  all_goals (try simp only [Int.toNat_natCast, tn1, tn2, tn3, Int.toNat_zero, ne_eq, Classical.not_not] at *)
  · refine sqx_pan ⟨_, ⟨?_, rfl, rfl⟩, ?_⟩
    · rw [← hu, hd0 (by omega)]; exact unq_qn (by assumption) (by assumption) (by assumption)
    · repeat' (first | with_reducible exact Ent.refl _ | with_reducible refine Ent.take_eq ?_ ?_ | rfl | with_reducible refine Ent.oR ?_ | with_reducible refine Ent.trans (oR.drop _ _ _) ?_ | with_reducible refine Ent.trans (Ent.drop _ _) ?_)
  · refine sqx ?_
    refine sq_ret2 Tryd.results67 ?_
    refine ⟨_, ⟨_, _, ?_, rfl, rfl⟩, ?_⟩
    · rw [← hu, hd0 (by omega)]; exact unq_q2 (by assumption) (by assumption) (by assumption)
    · repeat' (first | with_reducible exact Ent.refl _ | with_reducible refine Ent.take_eq ?_ ?_ | rfl | with_reducible refine Ent.oR ?_ | with_reducible refine Ent.trans (oR.drop _ _ _) ?_ | with_reducible refine Ent.trans (Ent.drop _ _) ?_)
  · refine sqx ?_
    refine sq_ret2 Tryd.results67 ?_
    refine ⟨_, ⟨_, _, ?_, rfl, rfl⟩, ?_⟩
    · rw [← hu, hd0 (by omega)]; exact unq_q (by assumption) (by assumption)
    · repeat' (first | with_reducible exact Ent.refl _ | with_reducible refine Ent.take_eq ?_ ?_ | rfl | with_reducible refine Ent.oR ?_ | with_reducible refine Ent.trans (oR.drop _ _ _) ?_ | with_reducible refine Ent.trans (Ent.drop _ _) ?_)
  · refine sw_appendV1 (kd := .u8) (b7 := b7) (acc.map iv) (iv (s.getD i 0)) o hol ⟨by omega, by omega⟩ fun o' ho' => ?_
    repeat' (first | with_reducible refine sw_in (by omega) ?_ | with_reducible (first | refine go1 ?_ | refine sct ?_ | refine scf ?_ | refine sgr ?_) | fail)
    refine sq_round ⟨(i + 1, acc ++ [s.getD i 0], o'), by omega, by omega, by simp only [List.length_append, List.length_cons, List.length_nil]; omega, fun h => absurd h ho', ?_⟩ (by show s.length - (i + 1) < s.length - i; omega) ?_ ?_
    · rw [← hu, hd0 (by omega)]; exact (unq_c (by assumption) (by assumption)).symm
    · show says _ [(0, .string (sB s)), (5, .int .i64 ((i + 1 : Nat) : Int)), (4, bufV ((acc ++ [s.getD i 0]).map iv).length o')]
      simp only [List.map_append, List.map_cons, List.map_nil, Int.natCast_add]
      repeat' (first | exact says_nil | refine says_cons rfl ?_ | refine says_cons (by simp) ?_)
    · show Ent _ (oR (vG .u8 5 ((acc ++ [s.getD i 0]).map iv)) F o')
      simp only [List.map_append, List.map_cons, List.map_nil]
      repeat' (first | with_reducible exact Ent.refl _ | with_reducible refine Ent.take_eq ?_ ?_ | rfl | with_reducible refine Ent.oR ?_ | with_reducible refine Ent.trans (oR.drop _ _ _) ?_ | with_reducible refine Ent.trans (Ent.drop _ _) ?_)
  · refine sw_appendV1 (kd := .u8) (b7 := b7) (acc.map iv) (iv (s.getD (i + 1) 0)) o hol ⟨by omega, by omega⟩ fun o' ho' => ?_
    repeat' (first | with_reducible refine sw_in (by omega) ?_ | with_reducible (first | refine go1 ?_ | refine sct ?_ | refine scf ?_ | refine sgr ?_) | fail)
    refine sq_round ⟨(i + 2, acc ++ [s.getD (i + 1) 0], o'), by omega, by omega, by simp only [List.length_append, List.length_cons, List.length_nil]; omega, fun h => absurd h ho', ?_⟩ (by show s.length - (i + 2) < s.length - i; omega) ?_ ?_
    · rw [← hu, hd0 (by omega), hd1 (by omega)]; exact (unq_e1 (by assumption) (by assumption) (by assumption)).symm
    · show says _ [(0, .string (sB s)), (5, .int .i64 ((i + 2 : Nat) : Int)), (4, bufV ((acc ++ [s.getD (i + 1) 0]).map iv).length o')]
      simp only [List.map_append, List.map_cons, List.map_nil, show ((i + 2 : Nat) : Int) = (i : Int) + 1 + 1 by omega]
      repeat' (first | exact says_nil | refine says_cons rfl ?_ | refine says_cons (by simp) ?_)
    · show Ent _ (oR (vG .u8 5 ((acc ++ [s.getD (i + 1) 0]).map iv)) F o')
      simp only [List.map_append, List.map_cons, List.map_nil]
      repeat' (first | with_reducible exact Ent.refl _ | with_reducible refine Ent.take_eq ?_ ?_ | rfl | with_reducible refine Ent.oR ?_ | with_reducible refine Ent.trans (oR.drop _ _ _) ?_ | with_reducible refine Ent.trans (Ent.drop _ _) ?_)
  · refine sw_appendV1 (kd := .u8) (b7 := b7) (acc.map iv) (iv (s.getD (i + 1) 0)) o hol ⟨by omega, by omega⟩ fun o' ho' => ?_
    repeat' (first | with_reducible refine sw_in (by omega) ?_ | with_reducible (first | refine go1 ?_ | refine sct ?_ | refine scf ?_ | refine sgr ?_) | fail)
    refine sq_round ⟨(i + 2, acc ++ [s.getD (i + 1) 0], o'), by omega, by omega, by simp only [List.length_append, List.length_cons, List.length_nil]; omega, fun h => absurd h ho', ?_⟩ (by show s.length - (i + 2) < s.length - i; omega) ?_ ?_
    · rw [← hu, hd0 (by omega), hd1 (by omega)]; exact (unq_e2 (by assumption) (by assumption) (by assumption)).symm
    · show says _ [(0, .string (sB s)), (5, .int .i64 ((i + 2 : Nat) : Int)), (4, bufV ((acc ++ [s.getD (i + 1) 0]).map iv).length o')]
      simp only [List.map_append, List.map_cons, List.map_nil, show ((i + 2 : Nat) : Int) = (i : Int) + 1 + 1 by omega]
      repeat' (first | exact says_nil | refine says_cons rfl ?_ | refine says_cons (by simp) ?_)
    · show Ent _ (oR (vG .u8 5 ((acc ++ [s.getD (i + 1) 0]).map iv)) F o')
      simp only [List.map_append, List.map_cons, List.map_nil]
      repeat' (first | with_reducible exact Ent.refl _ | with_reducible refine Ent.take_eq ?_ ?_ | rfl | with_reducible refine Ent.oR ?_ | with_reducible refine Ent.trans (oR.drop _ _ _) ?_ | with_reducible refine Ent.trans (Ent.drop _ _) ?_)
  · have hA := idxByte_ok digs (s.getD (i + 2) 0)
    have hB := idxByte_ok digs (s.getD (i + 3) 0)
    have hA1 := hex_lt (s.getD (i + 2) 0)
    have hB1 := hex_lt (s.getD (i + 3) 0)
    have hx := unq_x (acc := acc) (r := s.drop (i + 4)) (x := s.getD i 0) (y := s.getD (i + 1) 0) (a := s.getD (i + 2) 0) (b := s.getD (i + 3) 0) (by assumption) (by assumption) (by assumption)
    rw [← hd3 (by omega), ← hd2 (by omega), ← hd1 (by omega), ← hd0 (by omega), hu] at hx
    obtain ⟨A, hAe⟩ : ∃ A, Lib.indexByte digs (s.getD (i + 2) 0) = A := ⟨_, rfl⟩
    obtain ⟨B, hBe⟩ : ∃ B, Lib.indexByte digs (s.getD (i + 3) 0) = B := ⟨_, rfl⟩
    rw [hAe] at hA hA1 hx
    rw [hBe] at hB hB1 hx
    unfold digs at hA hB
    refine sc_lin ([]) (llp 0 (llp 1 (llp 2 (llp 3 (llp 5 (llp 6 (llp 7 (llp 8 (lle 4 (lle 9 (llp 10 (llp 11 ll0)))))))))))) (by kernel_rfl) rfl (by kernel_rfl) ?_
    all_goals (iterate 2 refine go1l ?_)
    all_goals (first | refine sl_in (by omega) ?_ | refine go1l ?_)
    all_goals refine sl_take (h := runop_sget (by omega)) ?_
    all_goals (iterate 2 refine go1l ?_)
    all_goals (first | refine sl_in (by omega) ?_ | refine go1l ?_)
    all_goals refine sl_take (h := runop_sget (by omega)) ?_
    all_goals refine sl_eff ?_
    all_goals (repeat' (first | with_reducible (first | refine go1 ?_ | refine sct ?_ | refine scf ?_ | refine sgr ?_) | ((with_reducible refine sw_callf hA ?_); rintro _ _ ⟨rfl, rfl⟩) | ((with_reducible refine sw_callf hB ?_); rintro _ _ ⟨rfl, rfl⟩) | with_reducible refine sl_back ?_ | fail))
    all_goals refine sl_eff ?_
    all_goals (repeat' (first | with_reducible (first | refine go1 ?_ | refine sct ?_ | refine scf ?_ | refine sgr ?_) | ((with_reducible refine sw_callf hA ?_); rintro _ _ ⟨rfl, rfl⟩) | ((with_reducible refine sw_callf hB ?_); rintro _ _ ⟨rfl, rfl⟩) | with_reducible refine sl_back ?_ | fail))
    all_goals (iterate 2 refine go1l ?_)
    all_goals refine sl_done ?_
    repeat' (first | with_reducible refine sw_in (by omega) ?_ | with_reducible (first | refine go1 ?_ | refine sct ?_ | refine scf ?_ | refine sgr ?_) | with_reducible refine sw_panic ?_ | with_reducible refine sw_shlP 4 16 ⟨rfl, by decide, rfl⟩ (by omega) ?_ | with_reducible refine sw_build1 fun b7 => ?_ | with_reducible refine sw_guard_skip_u ?_ | (with_reducible refine sc_cond (fun h => ?_) (fun h => ?_)) <;> (try (exfalso; first | contradiction | omega | exact h Iff.rfl)) | (with_reducible refine sw_guard_split (fun h => ?_) (fun h => ?_)) <;> (try (exfalso; first | contradiction | omega | exact h Iff.rfl)) | (with_reducible refine sw_pick (fun h => ?_) (fun h => ?_)) <;> (try (exfalso; first | contradiction | omega | exact h Iff.rfl)) | fail)
    · refine sqx_pan ⟨_, ⟨?_, rfl, rfl⟩, ?_⟩
      · rw [hx, if_pos (.inl (by assumption))]
      · repeat' (first | with_reducible exact Ent.refl _ | with_reducible refine Ent.take_eq ?_ ?_ | rfl | with_reducible refine Ent.oR ?_ | with_reducible refine Ent.trans (oR.drop _ _ _) ?_ | with_reducible refine Ent.trans (Ent.drop _ _) ?_)
    · refine sqx_pan ⟨_, ⟨?_, rfl, rfl⟩, ?_⟩
      · rw [hx, if_pos (.inr (by assumption))]
      · repeat' (first | with_reducible exact Ent.refl _ | with_reducible refine Ent.take_eq ?_ ?_ | rfl | with_reducible refine Ent.oR ?_ | with_reducible refine Ent.trans (oR.drop _ _ _) ?_ | with_reducible refine Ent.trans (Ent.drop _ _) ?_)
    · rename_i hA0 hB0
      rw [if_neg (by omega)] at hx
      have hc : iv (UInt8.ofNat (16 * A.toNat + B.toNat)) = IntKind.u8.wrap (ior .i64 (A * 16) B) := by rw [iv_ofNat _ (by omega), hex_or _ _ (by omega) (by omega), wrap_u8 (by omega)]; omega
      obtain ⟨c, hce⟩ : ∃ c, UInt8.ofNat (16 * A.toNat + B.toNat) = c := ⟨_, rfl⟩
      rw [hce] at hx hc
      refine sw_appendV1 (kd := .u8) (b7 := b7) (acc.map iv) (IntKind.u8.wrap (ior .i64 (A * 16) B)) o hol ⟨by omega, by omega⟩ fun o' ho' => ?_
      repeat' (first | with_reducible refine sw_in (by omega) ?_ | with_reducible (first | refine go1 ?_ | refine sct ?_ | refine scf ?_ | refine sgr ?_) | fail)
      refine sq_round ⟨(i + 4, acc ++ [c], o'), by omega, by omega, by simp only [List.length_append, List.length_cons, List.length_nil]; omega, fun h => absurd h ho', hx.symm⟩ (by show s.length - (i + 4) < s.length - i; omega) ?_ ?_
      · show says _ [(0, .string (sB s)), (5, .int .i64 ((i + 4 : Nat) : Int)), (4, bufV ((acc ++ [c]).map iv).length o')]
        simp only [List.map_append, List.map_cons, List.map_nil, hc, show ((i + 4 : Nat) : Int) = (i : Int) + 3 + 1 by omega]
        repeat' (first | exact says_nil | refine says_cons rfl ?_ | refine says_cons (by simp) ?_)
      · show Ent _ (oR (vG .u8 5 ((acc ++ [c]).map iv)) F o')
        simp only [List.map_append, List.map_cons, List.map_nil, hc]
        repeat' (first | with_reducible exact Ent.refl _ | with_reducible refine Ent.take_eq ?_ ?_ | rfl | with_reducible refine Ent.oR ?_ | with_reducible refine Ent.trans (oR.drop _ _ _) ?_ | with_reducible refine Ent.trans (Ent.drop _ _) ?_)
  · refine sqx_pan ⟨_, ⟨?_, rfl, rfl⟩, ?_⟩
    · rw [← hu, hd0 (by omega), hd1 (by omega)]; exact unq_b3 (by assumption) (by assumption) (by assumption) (by assumption) (by assumption)
    · repeat' (first | with_reducible exact Ent.refl _ | with_reducible refine Ent.take_eq ?_ ?_ | rfl | with_reducible refine Ent.oR ?_ | with_reducible refine Ent.trans (oR.drop _ _ _) ?_ | with_reducible refine Ent.trans (Ent.drop _ _) ?_)
  · refine sqx_pan ⟨_, ⟨?_, rfl, rfl⟩, ?_⟩
    · rw [← hu, hd0 (by omega), hd1 (by omega)]; exact unq_b2 (by assumption) (by assumption) (by assumption) (by assumption) (by rw [List.length_drop]; omega)
    · repeat' (first | with_reducible exact Ent.refl _ | with_reducible refine Ent.take_eq ?_ ?_ | rfl | with_reducible refine Ent.oR ?_ | with_reducible refine Ent.trans (oR.drop _ _ _) ?_ | with_reducible refine Ent.trans (Ent.drop _ _) ?_)
  · refine sqx_pan ⟨_, ⟨?_, rfl, rfl⟩, ?_⟩
    · rw [← hu, hd0 (by omega), List.drop_eq_nil_of_le (by omega)]; exact unq_b1 (by assumption) (by assumption)
    · repeat' (first | with_reducible exact Ent.refl _ | with_reducible refine Ent.take_eq ?_ ?_ | rfl | with_reducible refine Ent.oR ?_ | with_reducible refine Ent.trans (oR.drop _ _ _) ?_ | with_reducible refine Ent.trans (Ent.drop _ _) ?_)
  · refine sqx_pan ⟨_, ⟨?_, rfl, rfl⟩, ?_⟩
    · rw [← hu, List.drop_eq_nil_of_le (by omega)]; rfl
    · repeat' (first | with_reducible exact Ent.refl _ | with_reducible refine Ent.take_eq ?_ ?_ | rfl | with_reducible refine Ent.oR ?_ | with_reducible refine Ent.trans (oR.drop _ _ _) ?_ | with_reducible refine Ent.trans (Ent.drop _ _) ?_)
end Go.Gsl

namespace Go.Gsl
set_option linter.unusedVariables false
open Go.Proofs Go.Shelf

shelf_lay Lays.n217 Nm 217 at Tryd as Tryd.laysIdxS

theorem idxByteS_ok (s : Bs) (c : UInt8) : Spec Tryd.prog 82 [.string (sB s), .int .u8 (iv c)] [] [] fun F v Rs' => v = .int .i64 (Lib.indexByte s c) ∧ Rs' = F := by
  intro w0 F w hw
  refine Calls.mono (Any.stringslite_IndexByte Tryd.laysIdxS (sB s) (iv c) w) ?_
  rintro e w' ⟨rfl, rfl⟩
  refine ⟨_, _, rfl, ⟨?_, rfl⟩, hw⟩
  have : (iv c).toNat.toUInt8 = c := ofNat_iv c
  rw [this]

theorem indexB_ok (s : Bs) (c : UInt8) : Spec Tryd.prog 68 [.string (sB s), .string (sB [c])] [] [] fun F v Rs' => v = .int .i64 (Lib.indexByte s c) ∧ Rs' = F := by
  have hcall : Spec Tryd.prog 82 [.string (sB s), .int .u8 (iv ([c].getD (Int.toNat 0) 0))] [] [] fun F v Rs' => v = .int .i64 (Lib.indexByte s c) ∧ Rs' = F := idxByteS_ok s c
  have hl : (([c] : Bs).length : Int) = 1 := rfl
  refine spec_of Tryd.func68 rfl Tryd.ntmps68 rfl ?_
  intro w0 F
  repeat' (first | with_reducible (first | refine go1 ?_ | refine sct ?_ | refine scf ?_ | refine sgr ?_) | with_reducible refine sw_op (h := runop_sget (by simp)) ?_ | ((with_reducible refine sw_callf hcall ?_); rintro _ _ ⟨rfl, rfl⟩) | with_reducible refine sw_guard_skip_u ?_ | (with_reducible refine sc_cond (fun h => ?_) (fun h => ?_)) <;> (try (exfalso; first | contradiction | omega | exact h Iff.rfl)) | (with_reducible refine sw_guard_split (fun h => ?_) (fun h => ?_)) <;> (try (exfalso; first | contradiction | omega | exact h Iff.rfl)) | (with_reducible refine sw_pick (fun h => ?_) (fun h => ?_)) <;> (try (exfalso; first | contradiction | omega | exact h Iff.rfl)) | fail)
  · rename_i h
    refine sq_ret1 Tryd.results68 ?_
    subst h
    exact ⟨_, ⟨by simp [Lib.indexByte], rfl⟩, Ent.refl _⟩
  · refine sq_ret1 Tryd.results68 ?_
    exact ⟨_, ⟨rfl, rfl⟩, Ent.refl _⟩

set_option maxHeartbeats 1000000 in
theorem trimB_ok (s : Bs) (c : UInt8) (hs : s.length ≤ 1073741824) : Spec Tryd.prog 77 [.string (sB s), .int .u8 (iv c)] [] [] fun F v Rs' => v = .string (sB (s.dropWhile (· == c))) ∧ Rs' = F := by
  refine spec_of Tryd.func77 rfl Tryd.ntmps77 rfl ?_
  intro w0 F
  repeat' (first | with_reducible (first | refine go1 ?_ | refine sct ?_ | refine scf ?_ | refine sgr ?_) | fail)
  refine sc_loop (α := { x : Bs // x.length ≤ s.length ∧ x.dropWhile (· == c) = s.dropWhile (· == c) })
    (fun x => [(0, .string (sB x.1)), (1, .int .u8 (iv c))]) (fun _ => F) (fun x => x.1.length) ⟨s, Nat.le_refl _, rfl⟩ ?_ ?_ ?_
  · repeat' (first | exact says_nil | refine says_cons rfl ?_ | refine says_cons (by simp) ?_)
  · exact Ent.refl _
  rintro ⟨x, hx1, hx⟩ e
  simp only at hx1 hx
  simp only [List.cons_append, List.nil_append]
  repeat' (first | with_reducible refine sw_in (by omega) ?_ | with_reducible (first | refine go1 ?_ | refine sct ?_ | refine scf ?_ | refine sgr ?_) | with_reducible refine sw_op (h := runop_sget (by omega)) ?_ | with_reducible refine sw_op (h := runop_sfrom (by omega)) ?_ | with_reducible refine sw_guard_skip_u ?_ | (with_reducible refine sc_cond (fun h => ?_) (fun h => ?_)) <;> (try (exfalso; first | contradiction | omega | exact h Iff.rfl)) | (with_reducible refine sw_guard_split (fun h => ?_) (fun h => ?_)) <;> (try (exfalso; first | contradiction | omega | exact h Iff.rfl)) | (with_reducible refine sw_pick (fun h => ?_) (fun h => ?_)) <;> (try (exfalso; first | contradiction | omega | exact h Iff.rfl)) | fail)
  all_goals (try simp only [Int.toNat_zero, Int.toNat_one] at *)
  · rename_i h0
    cases x with
    | nil => simp at h0
    | cons y x =>
      have hy : y = c := iv_inj h
      refine sq_round ⟨x, by simp only [List.length_cons] at hx1; omega, by rw [← hx, List.dropWhile_cons, if_pos (by simp [hy])]⟩ (by simp) ?_ ?_
      · show says _ [(0, .string (sB x)), (1, .int .u8 (iv c))]
        refine says_cons (by rfl) ?_
        repeat' (first | exact says_nil | refine says_cons rfl ?_ | refine says_cons (by simp) ?_)
      · exact Ent.refl _
  · rename_i h0
    refine sq_ret1 Tryd.results77 ?_
    refine ⟨_, ⟨?_, rfl⟩, Ent.refl _⟩
    cases x with
    | nil => simp at h0
    | cons y x =>
      have hy : ¬ y = c := fun g => h (by rw [← g]; rfl)
      rw [← hx, List.dropWhile_cons, if_neg (by simp [hy])]
  · refine sq_ret1 Tryd.results77 ?_
    refine ⟨_, ⟨?_, rfl⟩, Ent.refl _⟩
    have : x = [] := List.length_eq_zero_iff.1 (by omega)
    subst this
    rw [← hx]; rfl

theorem trimL_ok (s : Bs) (hs : s.length ≤ 1073741824) : Spec Tryd.prog 66 [.string (sB s), .string (sB [32])] [] [] fun F v Rs' => v = .string (sB (trimL s)) ∧ Rs' = F := by
  obtain ⟨c, hc⟩ : ∃ c : UInt8, c = 32 := ⟨_, rfl⟩
  obtain ⟨k, hk⟩ : ∃ k : Int, iv c = k := ⟨_, rfl⟩
  have hk1 : k < 128 := by rw [← hk, hc]; decide
  unfold trimL
  rw [← hc]
  have hcall : Spec Tryd.prog 77 [.string (sB s), .int .u8 k] [] [] fun F v Rs' => v = .string (sB (s.dropWhile (· == c))) ∧ Rs' = F := by rw [← hk]; exact trimB_ok s c hs
  have hl : (([c] : Bs).length : Int) = 1 := rfl
  clear hc
  refine spec_of Tryd.func66 rfl Tryd.ntmps66 rfl ?_
  intro w0 F
  repeat' (first | with_reducible (first | refine go1 ?_ | refine sct ?_ | refine scf ?_ | refine sgr ?_) | with_reducible refine sw_op (h := runop_sidx_as (c := c) (by omega) rfl hk) ?_ | ((with_reducible refine sw_callf hcall ?_); rintro _ _ ⟨rfl, rfl⟩) | with_reducible refine sw_guard_skip_u ?_ | (with_reducible refine sc_cond (fun h => ?_) (fun h => ?_)) <;> (try (exfalso; first | contradiction | omega | exact h Iff.rfl)) | (with_reducible refine sw_guard_split (fun h => ?_) (fun h => ?_)) <;> (try (exfalso; first | contradiction | omega | exact h Iff.rfl)) | (with_reducible refine sw_pick (fun h => ?_) (fun h => ?_)) <;> (try (exfalso; first | contradiction | omega | exact h Iff.rfl)) | fail)
  · refine sq_ret1 Tryd.results66 ?_
    refine ⟨_, ⟨?_, rfl⟩, Ent.refl _⟩
    subst h; rfl
  · refine sq_ret1 Tryd.results66 ?_
    exact ⟨_, ⟨rfl, rfl⟩, Ent.refl _⟩

theorem idx_neg : ∀ (s : Bs) (c : UInt8), Lib.indexByte s c < 0 → cutW c s = s ∧ cutR c s = []
  | [], c, _ => ⟨rfl, rfl⟩
  | x :: s, c, h => by
    have hge := Lib.indexByte_ge s c
    unfold Lib.indexByte at h
    split at h
    · omega
    · rename_i hx
      have hx' : (x != c) = true := by simpa [bne] using hx
      split at h
      · rename_i h1
        have h2 : Lib.indexByte s c = -1 := by simpa using h1
        obtain ⟨i1, i2⟩ := idx_neg s c (by omega)
        unfold cutW cutR at *
        rw [List.takeWhile_cons, List.dropWhile_cons, if_pos hx', if_pos hx', i1]
        exact ⟨rfl, i2⟩
      · rename_i h1
        have h2 : ¬ Lib.indexByte s c = -1 := by simpa using h1
        omega
theorem idx_pos : ∀ (s : Bs) (c : UInt8), 0 ≤ Lib.indexByte s c → cutW c s = s.take (Lib.indexByte s c).toNat ∧ cutR c s = s.drop ((Lib.indexByte s c).toNat + 1) ∧ (Lib.indexByte s c).toNat < s.length
  | [], c, h => by simp [Lib.indexByte] at h
  | x :: s, c, h => by
    have hge := Lib.indexByte_ge s c
    unfold Lib.indexByte at h ⊢
    by_cases hx : (x == c) = true
    · rw [if_pos hx]
      have hx' : ¬ (x != c) = true := by simpa [bne] using hx
      unfold cutW cutR
      rw [List.takeWhile_cons, List.dropWhile_cons, if_neg hx', if_neg hx']
      simp
    · rw [if_neg hx] at h ⊢
      have hx' : (x != c) = true := by simpa [bne] using hx
      by_cases h1 : Lib.indexByte s c = -1
      · rw [h1] at h; simp at h
      · have h2 : ¬ (Lib.indexByte s c == -1) = true := by simpa using h1
        rw [if_neg h2] at h ⊢
        obtain ⟨i1, i2, i3⟩ := idx_pos s c (by omega)
        have e1 : (Lib.indexByte s c + 1).toNat = (Lib.indexByte s c).toNat + 1 := by omega
        rw [e1]
        unfold cutW cutR at *
        rw [List.takeWhile_cons, List.dropWhile_cons, if_pos hx', if_pos hx', i1, i2]
        refine ⟨rfl, rfl, ?_⟩
        simp only [List.length_cons]; omega

set_option maxHeartbeats 1000000 in
theorem cutS_ok (s : Bs) (c : UInt8) (hs : s.length ≤ 1073741824) : Spec Tryd.prog 49 [.string (sB s), .string (sB [c])] [] [] fun F v Rs' => (∃ y, v = .tuple #[.string (sB (cutW c s)), .string (sB (cutR c s)), .bool y]) ∧ Rs' = F := by
  have h1 := indexB_ok s c
  have h2 := idx_neg s c
  have h3 := idx_pos s c
  have hge := Lib.indexByte_ge s c
  have hl : (([c] : Bs).length : Int) = 1 := rfl
  obtain ⟨A, hA⟩ : ∃ A, Lib.indexByte s c = A := ⟨_, rfl⟩
  rw [hA] at h1 h2 h3 hge
  refine spec_of Tryd.func49 rfl Tryd.ntmps49 rfl ?_
  intro w0 F
  repeat' (first | with_reducible (first | refine go1 ?_ | refine sct ?_ | refine scf ?_ | refine sgr ?_) | ((with_reducible refine sw_callf h1 ?_); rintro _ _ ⟨rfl, rfl⟩) | with_reducible refine sw_guard_skip_u ?_ | (with_reducible refine sc_cond (fun h => ?_) (fun h => ?_)) <;> (try (exfalso; first | contradiction | omega | exact h Iff.rfl)) | (with_reducible refine sw_guard_split (fun h => ?_) (fun h => ?_)) <;> (try (exfalso; first | contradiction | omega | exact h Iff.rfl)) | (with_reducible refine sw_pick (fun h => ?_) (fun h => ?_)) <;> (try (exfalso; first | contradiction | omega | exact h Iff.rfl)) | fail)
  · rename_i h
    obtain ⟨i1, i2, i3⟩ := h3 (by omega)
    refine sc_lin ([]) (llp 0 (llp 1 (llp 2 (llp 3 (llp 4 (llp 5 (llp 6 (llp 7 (llp 8 (llp 9 (llp 10 (llp 11 ll0)))))))))))) (by kernel_rfl) rfl (by kernel_rfl) ?_
    all_goals (iterate 2 refine go1l ?_)
    all_goals refine sl_take (h := runop_sto (by omega)) ?_
    all_goals (iterate 4 refine go1l ?_)
    all_goals (first | refine sl_in (by omega) ?_ | refine go1l ?_)
    all_goals refine sl_take (h := runop_sfrom (by omega)) ?_
    all_goals (iterate 3 refine go1l ?_)
    all_goals refine sl_done ?_
    repeat' (first | with_reducible (first | refine go1 ?_ | refine sct ?_ | refine scf ?_ | refine sgr ?_) | fail)
    refine sq_ret3 Tryd.results49 ?_
    have e1 : (A + (([c] : Bs).length : Int)).toNat = A.toNat + 1 := by omega
    rw [e1, ← i1, ← i2]
    exact ⟨_, ⟨⟨_, rfl⟩, rfl⟩, Ent.refl _⟩
  · rename_i h
    obtain ⟨i1, i2⟩ := h2 (by omega)
    refine sq_ret3 Tryd.results49 ?_
    rw [i1, i2]
    exact ⟨_, ⟨⟨_, rfl⟩, rfl⟩, Ent.refl _⟩

theorem cut_ok (s : Bs) (c : UInt8) (hs : s.length ≤ 1073741824) : Spec Tryd.prog 25 [.string (sB s), .string (sB [c])] [] [] fun F v Rs' => (∃ y, v = .tuple #[.string (sB (cutW c s)), .string (sB (cutR c s)), .bool y]) ∧ Rs' = F := by
  refine spec_of Tryd.func25 rfl Tryd.ntmps25 rfl ?_
  intro w0 F
  repeat' (first | with_reducible (first | refine go1 ?_ | refine sct ?_ | refine scf ?_ | refine sgr ?_) | ((with_reducible refine sw_callf (cutS_ok s c hs) ?_); rintro _ _ ⟨⟨y, rfl⟩, rfl⟩) | with_reducible refine sw_guard_skip_u ?_ | (with_reducible refine sc_cond (fun h => ?_) (fun h => ?_)) <;> (try (exfalso; first | contradiction | omega | exact h Iff.rfl)) | (with_reducible refine sw_guard_split (fun h => ?_) (fun h => ?_)) <;> (try (exfalso; first | contradiction | omega | exact h Iff.rfl)) | (with_reducible refine sw_pick (fun h => ?_) (fun h => ?_)) <;> (try (exfalso; first | contradiction | omega | exact h Iff.rfl)) | fail)
  refine sq_ret3 Tryd.results25 ?_
  exact ⟨_, ⟨⟨_, rfl⟩, rfl⟩, Ent.refl _⟩
end Go.Gsl

namespace Go.Gsl
set_option linter.unusedVariables false
open Go.Proofs

abbrev Tok.cs (w : Tok) : List Value := [.string (sB w.s), .bool w.t]
def tokC (l : List Tok) : List Value := l.flatMap Tok.cs
theorem tokC_app (l m : List Tok) : tokC (l ++ m) = tokC l ++ tokC m := by unfold tokC; simp
theorem tokC_len : ∀ l : List Tok, (tokC l).length = l.length * 2
  | [] => rfl
  | x :: l => by
    show (x.cs ++ tokC l).length = _
    have h1 : (x :: l).length = l.length + 1 := rfl
    have h2 : x.cs.length = 2 := rfl
    rw [List.length_append, tokC_len l, h1, h2]
    omega

section
variable {x : Bs}
theorem ws_nil (h : trimL x = []) : wordsL x = some [] := by rw [wordsL_step, h]
theorem trimL_hd (h : ¬ trimL x = []) : trimL x = (trimL x).getD 0 0 :: (trimL x).drop 1 := by
  have := drop_getD (s := trimL x) (i := 0) (by have := idx0 h; omega)
  rwa [List.drop_zero] at this
theorem ws_hash (h : ¬ trimL x = []) (h1 : iv ((trimL x).getD 0 0) = 35) : wordsL x = some [] := by rw [wordsL_step, trimL_hd h]; simp only; rw [if_pos h1]
theorem ws_qn (h : ¬ trimL x = []) (h2 : iv ((trimL x).getD 0 0) = 34) (hu : unq [] ((trimL x).drop 1) = none) : wordsL x = none := by
  rw [wordsL_step, trimL_hd h]; simp only; rw [if_neg (by omega), if_pos h2, hu]
theorem ws_q {t r : Bs} (h : ¬ trimL x = []) (h2 : iv ((trimL x).getD 0 0) = 34) (hu : unq [] ((trimL x).drop 1) = some (t, r)) : wordsL x = (wordsL r).map (⟨t, true⟩ :: ·) := by
  rw [wordsL_step, trimL_hd h]; simp only; rw [if_neg (by omega), if_pos h2, hu]
theorem ws_w (h : ¬ trimL x = []) (h1 : ¬ iv ((trimL x).getD 0 0) = 35) (h2 : ¬ iv ((trimL x).getD 0 0) = 34) : wordsL x = (wordsL (cutR 32 (trimL x))).map (⟨cutW 32 (trimL x), false⟩ :: ·) := by
  rw [wordsL_step]
  have := trimL_hd h
  generalize trimL x = y at *
  rw [this]; simp only; rw [if_neg h1, if_neg h2]
theorem map_app {l : List Tok} {w : Tok} (y : Option (List Tok)) : (y.map (w :: ·)).map (l ++ ·) = y.map ((l ++ [w]) ++ ·) := by cases y <;> simp
theorem cutR_lt (h : ¬ trimL x = []) : (cutR 32 (trimL x)).length < (trimL x).length := by
  rw [trimL_hd h]; exact cutR_len _ _ _
end

theorem tokC_one (w : Tok) : tokC [w] = w.cs := by simp [tokC]
theorem tok_one (w : Tok) : ∀ v ∈ Tok.cs w, v.oneCell' = true := by
  intro v hv
  simp only [List.mem_cons, List.not_mem_nil, or_false] at hv
  rcases hv with rfl | rfl <;> rfl

set_option maxHeartbeats 2000000 in
theorem sWords_ok (s : Bs) (hs : s.length ≤ 1073741824) : SpecP Tryd.prog 44 [.string (sB s)] [] []
    (fun F v Rs' => ∃ l o, wordsL s = some l ∧ NOk 2 (tokC l) l.length o ∧ v = nV l.length o ∧ Rs' = oR (nG 96 (tokC l)) F o)
    (fun F v Rs' => wordsL s = none ∧ v = .iface 27 (.int .i64 261) ∧ Rs' = F) := by
  refine spec_ofP Tryd.func44 rfl Tryd.ntmps44 rfl ?_
  intro w0 F
  repeat' (first | with_reducible (first | refine go1 ?_ | refine sct ?_ | refine scf ?_ | refine sgr ?_) | fail)
  refine sc_loop (α := { x : Bs × List Tok × Option (Nat × Nat × List Value) // x.1.length + x.2.1.length ≤ s.length ∧ NOk 2 (tokC x.2.1) x.2.1.length x.2.2 ∧ (wordsL x.1).map (x.2.1 ++ ·) = wordsL s })
    (fun x => [(0, .string (sB x.1.1)), (3, nV x.1.2.1.length x.1.2.2)]) (fun x => oR (nG 96 (tokC x.1.2.1)) F x.1.2.2) (fun x => x.1.1.length) ⟨(s, [], none), by simp, ?_, by show Option.map _ _ = _; cases wordsL s <;> simp⟩ ?_ ?_ ?_
  · exact ⟨rfl, fun _ => ⟨rfl, rfl⟩, fun b c t h => by cases h⟩
  · repeat' (first | exact says_nil | refine says_cons rfl ?_ | refine says_cons (by simp) ?_)
  · exact Ent.refl _
  rintro ⟨⟨x, l, o⟩, hx1, ho, hx⟩ e
  simp only at hx1 ho hx
  simp only [List.cons_append, List.nil_append]
  have htl := trimL_len x
  repeat' (first | with_reducible refine sw_in (by omega) ?_ | with_reducible (first | refine go1 ?_ | refine sct ?_ | refine scf ?_ | refine sgr ?_) | ((with_reducible refine sw_callf (trimL_ok x (by omega)) ?_); rintro _ _ ⟨rfl, rfl⟩) | with_reducible refine sw_op (h := runop_sget (idx0 (by assumption))) ?_ | with_reducible refine sw_guard_skip_u ?_ | (with_reducible refine sc_cond (fun h => ?_) (fun h => ?_)) <;> (try (exfalso; first | contradiction | omega | exact h Iff.rfl)) | (with_reducible refine sw_guard_split (fun h => ?_) (fun h => ?_)) <;> (try (exfalso; first | contradiction | omega | exact h Iff.rfl)) | (with_reducible refine sw_pick (fun h => ?_) (fun h => ?_)) <;> (try (exfalso; first | contradiction | omega | exact h Iff.rfl)) | fail)
  all_goals (try simp only [Int.toNat_zero] at *)
  · refine sqx ?_
    refine sq_ret1 Tryd.results44 ?_
    refine ⟨_, ⟨l, o, ?_, ho, rfl, rfl⟩, Ent.refl _⟩
    rw [← hx, ws_nil (by assumption)]; simp
  · refine sqx ?_
    refine sq_ret1 Tryd.results44 ?_
    refine ⟨_, ⟨l, o, ?_, ho, rfl, rfl⟩, Ent.refl _⟩
    rw [← hx, ws_hash (by assumption) (by assumption)]; simp
  · rename_i h0 h1 
    have hl0 := idx0 h0
    refine sw_callP (sUnq_ok (trimL x) (by omega) (by omega)) ?_ ?_
    · rintro _ _ ⟨t, r, hu, rfl, rfl⟩
      have hr := unq_len _ _ _ _ _ (Nat.le_refl _) hu
      rw [List.length_drop] at hr
      rw [ws_q h0 (by assumption) hu, map_app] at hx
      repeat' (first | with_reducible (first | refine go1 ?_ | refine sct ?_ | refine scf ?_ | refine sgr ?_) | with_reducible refine sw_build (Tok.cs ⟨t, true⟩) (by kernel_rfl) ?_ | with_reducible refine sw_buildSliceN (Tok.cs ⟨t, true⟩) ⟨by omega, by omega, by omega⟩ (by kernel_rfl) fun b7 => ?_ | fail)
      refine sw_appendNV (sz := 2) (b7 := b7) (tokC l) (Tok.cs ⟨t, true⟩) l.length o ho (tok_one _) rfl (by omega) ⟨rfl, by omega, by omega⟩ fun o' ho' hN => ?_
      repeat' (first | with_reducible (first | refine go1 ?_ | refine sct ?_ | refine scf ?_ | refine sgr ?_) | fail)
      refine sq_round ⟨(r, l ++ [⟨t, true⟩], o'), by simp only [List.length_append, List.length_cons, List.length_nil]; omega, by rw [List.length_append, tokC_app, tokC_one]; exact hN, hx⟩ (by show r.length < x.length; omega) ?_ ?_
      · show says _ [(0, .string (sB r)), (3, nV (l ++ [(⟨t, true⟩ : Tok)]).length o')]
        rw [List.length_append]
        repeat' (first | exact says_nil | refine says_cons rfl ?_ | refine says_cons (by simp) ?_)
      · show Ent _ (oR (nG 96 (tokC (l ++ [⟨t, true⟩]))) F o')
        rw [tokC_app, tokC_one]
        repeat' (first | with_reducible exact Ent.refl _ | with_reducible refine Ent.take_eq ?_ ?_ | rfl | with_reducible refine Ent.oR ?_ | with_reducible refine Ent.trans (oR.drop _ _ _) ?_ | with_reducible refine Ent.trans (Ent.drop _ _) ?_)
    · rintro _ _ ⟨hu, rfl, rfl⟩
      repeat' (first | with_reducible (first | refine go1 ?_ | refine sct ?_ | refine scf ?_ | refine sgr ?_) | fail)
      refine sqx_pan ⟨_, ⟨?_, rfl, rfl⟩, ?_⟩
      · rw [← hx, ws_qn h0 (by assumption) hu]; rfl
      · repeat' (first | with_reducible exact Ent.refl _ | with_reducible refine Ent.take_eq ?_ ?_ | rfl | with_reducible refine Ent.oR ?_ | with_reducible refine Ent.trans (oR.drop _ _ _) ?_ | with_reducible refine Ent.trans (Ent.drop _ _) ?_)
  · rename_i h0 h1
    have hl0 := idx0 h0
    have hr := cutR_lt h0
    rw [ws_w h0 h1 (by assumption), map_app] at hx
    have hc := cut_ok (trimL x) 32 (by omega)
    obtain ⟨t, ht⟩ : ∃ t, cutW 32 (trimL x) = t := ⟨_, rfl⟩
    obtain ⟨r, hre⟩ : ∃ r, cutR 32 (trimL x) = r := ⟨_, rfl⟩
    rw [ht] at hx hc
    rw [hre] at hx hc hr
    repeat' (first | with_reducible (first | refine go1 ?_ | refine sct ?_ | refine scf ?_ | refine sgr ?_) | ((with_reducible refine sw_callf hc ?_); rintro _ _ ⟨⟨y, rfl⟩, rfl⟩) | with_reducible refine sw_build (Tok.cs ⟨t, false⟩) (by kernel_rfl) ?_ | with_reducible refine sw_buildSliceN (Tok.cs ⟨t, false⟩) ⟨by omega, by omega, by omega⟩ (by kernel_rfl) fun b7 => ?_ | fail)
    refine sw_appendNV (sz := 2) (b7 := b7) (tokC l) (Tok.cs ⟨t, false⟩) l.length o ho (tok_one _) rfl (by omega) ⟨rfl, by omega, by omega⟩ fun o' ho' hN => ?_
    repeat' (first | with_reducible (first | refine go1 ?_ | refine sct ?_ | refine scf ?_ | refine sgr ?_) | fail)
    refine sq_round ⟨(r, l ++ [⟨t, false⟩], o'), by simp only [List.length_append, List.length_cons, List.length_nil]; omega, by rw [List.length_append, tokC_app, tokC_one]; exact hN, hx⟩ (by show r.length < x.length; omega) ?_ ?_
    · show says _ [(0, .string (sB r)), (3, nV (l ++ [(⟨t, false⟩ : Tok)]).length o')]
      rw [List.length_append]
      repeat' (first | exact says_nil | refine says_cons rfl ?_ | refine says_cons (by simp) ?_)
    · show Ent _ (oR (nG 96 (tokC (l ++ [⟨t, false⟩]))) F o')
      rw [tokC_app, tokC_one]
      repeat' (first | with_reducible exact Ent.refl _ | with_reducible refine Ent.take_eq ?_ ?_ | rfl | with_reducible refine Ent.oR ?_ | with_reducible refine Ent.trans (oR.drop _ _ _) ?_ | with_reducible refine Ent.trans (Ent.drop _ _) ?_)
end Go.Gsl

namespace Go.Gsl
set_option linter.unusedVariables false
open Go.Proofs

/-- what 'form' answers -/
def formV (s : Bs) : Value := match formOf s with
  | some cs => .tuple #[.string (sB cs), .bool true]
  | none => .tuple #[.string (sB []), .bool false]
theorem formV_of {s : Bs} {cs : Bs} (h : formOf s = some cs) : formV s = .tuple #[.string (sB cs), .bool true] := by unfold formV; rw [h]
theorem formV_none {s : Bs} (h : formOf s = none) : formV s = .tuple #[.string (sB []), .bool false] := by unfold formV; rw [h]

set_option maxHeartbeats 2000000 in
theorem sForm_ok (s : Bs) : Spec Tryd.prog 63 [.string (sB s)] [] [] fun F v Rs' => v = formV s ∧ Rs' = F := by
  refine spec_of Tryd.func63 rfl Tryd.ntmps63 rfl ?_
  intro w0 F
  repeat' (first | with_reducible (first | refine go1 ?_ | refine sct ?_ | refine scf ?_ | refine sgr ?_) | (with_reducible refine sc_cond (fun h => ?_) (fun h => ?_)) <;> (try (exfalso; first | contradiction | omega | exact h Iff.rfl)) | fail)
  all_goals (refine sq_ret2 Tryd.results63 ?_)
  all_goals refine ⟨_, ⟨?_, rfl⟩, Ent.refl _⟩
  all_goals (first | refine (formV_of ?_).symm | refine (formV_none ?_).symm)
  all_goals (first | (subst h; decide +kernel) | (unfold formOf wStore wBegin wGet wDelete wPut wScan wCommit wAbort wStep wPick wRun wEpoch wSave wForget wAll wRestart wRest wPrune wShrink wCrash wFuse; simp only [*, if_false]))

/-- a row of bools -/
def boolC (l : List Bool) : List Value := l.map Value.bool
def bG (el : TypeId) (l : List Bool) (x : Nat × Nat × List Value) : Res := nG el (boolC l) x

theorem boolC_one (y : Bool) : ∀ v ∈ [Value.bool y], v.oneCell' = true := by
  intro v hv
  simp only [List.mem_cons, List.not_mem_nil, or_false] at hv
  subst hv; rfl
section
variable {P : Program} {ops : List Oper} {Q : Cont} {n : Nat} {w0 : World} {rest : List Oper} {e : Env} {Rs F : List Res} {ty : TypeId}
/-- []byte(s) -/
theorem sw_strBytesS {d : Nat} {s u el : TypeId} {x : Operand} (l : Bs) {pos : String} {after : Array Edge} [hx : Ev n e x (.string ⟨l.toArray⟩)] [hs : Und P s .string] [hu : Und P u (.slice el)] [he : Und P el (.int .u8)]
    (k : ∀ b c r fr, (l.map iv).length ≤ c → SW P ops Q n w0 rest ((d, .slice (some ⟨b, 0, none⟩) (l.map iv).length c) :: e) ((b, pts b (.cells ((l.map iv).map (Value.int .u8) ++ r).toArray el fr)) :: Rs)) :
    SW P ops Q n w0 ({ dst := some d, op := .convert s u x, type := ty, pos := pos, after := after, guard := none } :: rest) e Rs := by
  have hx' : Ev n e x (.string (strB (l.map iv))) := ⟨by rw [strB_iv]; exact hx.out⟩
  exact sw_strBytesC (l.map iv) (byt_iv l) k
end
def kOk (c : UInt8) : Bool := iv c = 48 || iv c = 49
def kB (c : UInt8) : Bool := decide (iv c = 49)

set_option maxHeartbeats 2000000 in
theorem sKeeps_ok (s : Bs) (hs : s.length ≤ 1073741824) : SpecP Tryd.prog 65 [.string (sB s)] [] []
    (fun F v Rs' => ∃ l o, keepsS s = some l ∧ NOk 1 (boolC l) l.length o ∧ v = nV l.length o ∧ Rs' = oR (nG 4 (boolC l)) F o)
    (fun F v Rs' => keepsS s = none ∧ v = .iface 27 (.int .i64 262) ∧ Rs' = F) := by
  refine spec_ofP Tryd.func65 rfl Tryd.ntmps65 rfl ?_
  intro w0 F
  repeat' (first | with_reducible (first | refine go1 ?_ | refine sct ?_ | refine scf ?_ | refine sgr ?_) | (with_reducible refine sc_cond (fun h => ?_) (fun h => ?_)) <;> (try (exfalso; first | contradiction | omega | exact h Iff.rfl)) | fail)
  · refine sqx ?_
    refine sq_ret1 Tryd.results65 ?_
    refine ⟨_, ⟨[], none, ?_, ⟨rfl, fun _ => ⟨rfl, rfl⟩, fun b c t h => by cases h⟩, rfl, rfl⟩, Ent.refl _⟩
    unfold keepsS; rw [if_pos h]
  have hk : keepsS s = if s.all kOk then some (s.map kB) else none := by unfold keepsS; rw [if_neg h]; rfl
  refine sw_strBytesS s fun b c r fr hc => ?_
  have hln : (s.map iv).length = s.length := List.length_map ..
  repeat' (first | with_reducible (first | refine go1 ?_ | refine sct ?_ | refine scf ?_ | refine sgr ?_) | fail)
  refine sc_loop (α := { x : Nat × Option (Nat × Nat × List Value) // x.1 ≤ s.length ∧ NOk 1 (boolC ((s.take x.1).map kB)) x.1 x.2 ∧ (s.take x.1).all kOk = true })
    (fun x => [(9, .slice (some ⟨b, 0, none⟩) (s.map iv).length c), (10, .int .i64 ((s.map iv).length : Int)), (11, .int .i64 (x.1.1 : Int)), (3, nV x.1.1 x.1.2)])
    (fun x => oR (nG 4 (boolC ((s.take x.1.1).map kB))) ((b, pts b (.cells ((s.map iv).map (Value.int .u8) ++ r).toArray 5 fr)) :: F) x.1.2) (fun x => s.length - x.1.1) ⟨(0, none), Nat.zero_le _, ?_, rfl⟩ ?_ ?_ ?_
  · exact ⟨rfl, fun _ => ⟨rfl, rfl⟩, fun b c t h => by cases h⟩
  · repeat' (first | exact says_nil | refine says_cons rfl ?_ | refine says_cons (by simp) ?_)
  · exact Ent.refl _
  rintro ⟨⟨j, o⟩, hj, ho, ha⟩ e
  simp only at hj ho ha
  simp only [List.cons_append, List.nil_append]
  repeat' (first | with_reducible refine sw_in (by omega) ?_ | with_reducible (first | refine go1 ?_ | refine sct ?_ | refine scf ?_ | refine sgr ?_) | (with_reducible refine sc_cond (fun h => ?_) (fun h => ?_)) <;> (try (exfalso; first | contradiction | omega | exact h Iff.rfl)) | fail)
  · have hj2 : j < s.length := by omega
    refine sw_idx j ⟨rfl, by omega⟩ ?_
    refine sw_loadAt (.int .u8 (iv (s.getD j 0))) (by
      rw [List.getElem?_append_left (by simp; omega), List.getElem?_map, List.getElem?_map, List.getElem?_eq_getElem hj2, List.getD_eq_getElem?_getD, List.getElem?_eq_getElem hj2]; rfl) ?_
    have ht : s.take (j + 1) = s.take j ++ [s.getD j 0] := by
      rw [List.take_add_one, List.getElem?_eq_getElem hj2, List.getD_eq_getElem?_getD, List.getElem?_eq_getElem hj2]; rfl
    have hz : s.getD j 0 ∈ s := by rw [List.getD_eq_getElem?_getD, List.getElem?_eq_getElem hj2]; exact List.getElem_mem hj2
    generalize s.getD j 0 = z at *
    repeat' (first | with_reducible (first | refine go1 ?_ | refine sct ?_ | refine scf ?_ | refine sgr ?_) | with_reducible refine sw_build1 fun b7 => ?_ | with_reducible refine sw_panic ?_ | with_reducible refine sw_guard_skip_u ?_ | (with_reducible refine sc_cond (fun h => ?_) (fun h => ?_)) <;> (try (exfalso; first | contradiction | omega | exact h Iff.rfl)) | (with_reducible refine sw_guard_split (fun h => ?_) (fun h => ?_)) <;> (try (exfalso; first | contradiction | omega | exact h Iff.rfl)) | (with_reducible refine sw_pick (fun h => ?_) (fun h => ?_)) <;> (try (exfalso; first | contradiction | omega | exact h Iff.rfl)) | fail)
    all_goals (try simp only [ne_eq, Classical.not_not] at *)
    · refine sqx_pan ⟨_, ⟨?_, rfl, rfl⟩, ?_⟩
      · rename_i h48
        rw [hk, if_neg]
        intro hal
        have := List.all_eq_true.1 hal z hz
        simp only [kOk, Bool.or_eq_true, decide_eq_true_eq] at this
        omega
      · repeat' (first | with_reducible exact Ent.refl _ | with_reducible refine Ent.take_eq ?_ ?_ | rfl | with_reducible refine Ent.oR ?_ | with_reducible refine Ent.trans (oR.drop _ _ _) ?_ | with_reducible refine Ent.trans (Ent.drop _ _) ?_)
    · have hkz : kOk z = true := by simp only [kOk, Bool.or_eq_true, decide_eq_true_eq]; omega
      refine sw_appendNV (sz := 1) (b7 := b7) (boolC ((s.take j).map kB)) [.bool (decide (iv z = 49))] j o ho (boolC_one _) rfl (by omega) ⟨rfl, by omega, by omega⟩ fun o' ho' hN => ?_
      have hC : boolC ((s.take j).map kB) ++ [.bool (decide (iv z = 49))] = boolC ((s.take (j + 1)).map kB) := by
        rw [ht]; simp [boolC, kB]
      rw [hC] at hN ⊢
      repeat' (first | with_reducible refine sw_in (by omega) ?_ | with_reducible (first | refine go1 ?_ | refine sct ?_ | refine scf ?_ | refine sgr ?_) | fail)
      refine sq_round ⟨(j + 1, o'), by omega, hN, by rw [ht, List.all_append, ha]; simp [hkz]⟩ (by show s.length - (j + 1) < s.length - j; omega) ?_ ?_
      · show says _ [(9, .slice (some ⟨b, 0, none⟩) (s.map iv).length c), (10, .int .i64 ((s.map iv).length : Int)), (11, .int .i64 ((j + 1 : Nat) : Int)), (3, nV (j + 1) o')]
        repeat' (first | exact says_nil | refine says_cons rfl ?_ | refine says_cons (by simp) ?_)
      · show Ent _ (oR (nG 4 (boolC ((s.take (j + 1)).map kB))) ((b, pts b (.cells ((s.map iv).map (Value.int .u8) ++ r).toArray 5 fr)) :: F) o')
        repeat' (first | with_reducible exact Ent.refl _ | with_reducible refine Ent.take_eq ?_ ?_ | rfl | with_reducible refine Ent.oR ?_ | with_reducible refine Ent.trans (oR.drop _ _ _) ?_ | with_reducible refine Ent.trans (Ent.drop _ _) ?_)
    · have hkz : kOk z = true := by simp only [kOk, Bool.or_eq_true, decide_eq_true_eq]; omega
      refine sw_appendNV (sz := 1) (b7 := b7) (boolC ((s.take j).map kB)) [.bool (decide (iv z = 49))] j o ho (boolC_one _) rfl (by omega) ⟨rfl, by omega, by omega⟩ fun o' ho' hN => ?_
      have hC : boolC ((s.take j).map kB) ++ [.bool (decide (iv z = 49))] = boolC ((s.take (j + 1)).map kB) := by
        rw [ht]; simp [boolC, kB]
      rw [hC] at hN ⊢
      repeat' (first | with_reducible refine sw_in (by omega) ?_ | with_reducible (first | refine go1 ?_ | refine sct ?_ | refine scf ?_ | refine sgr ?_) | fail)
      refine sq_round ⟨(j + 1, o'), by omega, hN, by rw [ht, List.all_append, ha]; simp [hkz]⟩ (by show s.length - (j + 1) < s.length - j; omega) ?_ ?_
      · show says _ [(9, .slice (some ⟨b, 0, none⟩) (s.map iv).length c), (10, .int .i64 ((s.map iv).length : Int)), (11, .int .i64 ((j + 1 : Nat) : Int)), (3, nV (j + 1) o')]
        repeat' (first | exact says_nil | refine says_cons rfl ?_ | refine says_cons (by simp) ?_)
      · show Ent _ (oR (nG 4 (boolC ((s.take (j + 1)).map kB))) ((b, pts b (.cells ((s.map iv).map (Value.int .u8) ++ r).toArray 5 fr)) :: F) o')
        repeat' (first | with_reducible exact Ent.refl _ | with_reducible refine Ent.take_eq ?_ ?_ | rfl | with_reducible refine Ent.oR ?_ | with_reducible refine Ent.trans (oR.drop _ _ _) ?_ | with_reducible refine Ent.trans (Ent.drop _ _) ?_)
  · have hjs : j = s.length := by omega
    subst hjs
    rw [List.take_length] at ho ha ⊢
    refine sqx ?_
    refine sq_ret1 Tryd.results65 ?_
    refine ⟨_, ⟨s.map kB, o, by rw [hk, if_pos ha], by rw [List.length_map]; exact ho, by rw [List.length_map], rfl⟩, ?_⟩
    repeat' (first | with_reducible exact Ent.refl _ | with_reducible refine Ent.take_eq ?_ ?_ | rfl | with_reducible refine Ent.oR ?_ | with_reducible refine Ent.trans (oR.drop _ _ _) ?_ | with_reducible refine Ent.trans (Ent.drop _ _) ?_)
end Go.Gsl

namespace Go.Gsl
set_option linter.unusedVariables false
open Go.Proofs Go.Shelf

shelf_lay LaysC.n172 Nm 172 at Tryd as Tryd.laysAtoi
shelf_lay LaysM.n171 Nm 171 at Tryd as Tryd.laysItoa

theorem Sat.below {w0 w w' : World} {Rs : List Res} (h : Sat w0 w Rs) (hb : RowKit.Below w.heap.size w w') : Sat w0 w' Rs := by
  obtain ⟨⟨h1, h2, h3⟩, x, hf, hs⟩ := h
  obtain ⟨b1, b2, b3, b4, b5⟩ := hb
  refine ⟨⟨by rw [b1, h1], by rw [b2, h2], by rw [b3, h3]⟩, x, ?_, hs⟩
  intro k o f hk
  have := hf k o f hk
  have hlt := (Array.getElem?_eq_some_iff.1 this).1
  rw [b5 k hlt]; exact this

theorem ro_var {W w0 w : World} {Rs F : List Res} [t : Take Rs 0 (ro W) F] {P : Program} {nm : String} {cs : Array Value} (h : W.var? P nm = some cs) (hw : Sat w0 w Rs) : w.var? P nm = some cs := by
  unfold World.var? at h ⊢
  cases hg : P.globalNamed nm with
  | none => rw [hg] at h; cases h
  | some g =>
    rw [hg] at h
    simp only [Option.bind_some] at h ⊢
    cases hh : W.heap[g]? with
    | none => rw [hh] at h; cases h
    | some o =>
      have hlt := (Array.getElem?_eq_some_iff.1 hh).1
      rw [ro_block (t := t) hlt w hw]
      exact h

section
variable {P : Program} {n : Nat} {e : Env} {x : Operand} {t t' ty : TypeId} {ms : Array (String × TypeId)}
theorem run_equalIn_nn (d : Nat) [hu : Und P t (.interface ms)] (w : World) : (Op.equalIn (d + 1) t .nilIface .nilIface).run P w = .ok true w := by simp [Op.equalIn, run_und (t := t)]
theorem run_equalIn_in (d : Nat) (u : TypeId) (v : Value) [hu : Und P t (.interface ms)] (w : World) : (Op.equalIn (d + 1) t (.iface u v) .nilIface).run P w = .ok false w := by simp [Op.equalIn, run_und (t := t)]
instance PureOp.ineN [hx : Ev n e x .nilIface] [hu : Und P t (.interface ms)] : PureOp P n e (.binOp .neq t x (.const .nilIface) t') ty (.bool false) :=
  ⟨fun o h1 _ w => by
    have hy : Ev n e (.const .nilIface) .nilIface := ⟨rfl⟩
    exact run_ne_of h1 w (by simp [eqGuard]) (run_neq_of .nilIface .nilIface (r := true) rfl fun d => run_equalIn_nn d w)⟩
instance PureOp.ineS {u : TypeId} {v : Value} [hx : Ev n e x (.iface u v)] [hu : Und P t (.interface ms)] : PureOp P n e (.binOp .neq t x (.const .nilIface) t') ty (.bool true) :=
  ⟨fun o h1 _ w => by
    have hy : Ev n e (.const .nilIface) .nilIface := ⟨rfl⟩
    exact run_ne_of h1 w (by simp [eqGuard]) (run_neq_of (.iface u v) .nilIface (r := false) rfl fun d => run_equalIn_in d u v w)⟩
end

/-- what the program's texts lay, as numbers' texts want it -/
structure Tabs (P : Program) (W : World) : Prop where
  pow : Lib.TabIs P W "internal/strconv.uint64pow10" .u64 Lib.pow10Tab
  syn : ∃ t v, W.var? P "strconv.ErrSyntax" = some #[.iface t v]
  rng : ∃ t v, W.var? P "strconv.ErrRange" = some #[.iface t v]

theorem itoa_ok (W : World) (hT : Tabs Tryd.prog W) (k : Int) (hk : -9223372036854775808 ≤ k ∧ k ≤ 9223372036854775807) : Spec Tryd.prog 61 [.int .i64 k] [0] [ro W]
    fun F v Rs' => v = .string (sB (Lib.itoa k)) ∧ Rs' = (0, ro W) :: F := by
  intro w0 F w hw
  have hw' : Sat w0 w ((0, ro W) :: F) := hw
  refine Calls.mono (Any.strconv_Itoa Tryd.laysItoa k hk.1 hk.2 w (ro_var hT.pow hw')) ?_
  rintro e w' ⟨rfl, n, os, rfl⟩
  refine ⟨_, _, rfl, ⟨rfl, rfl⟩, Sat.grow ?_⟩
  exact hw'.draw (w.drawn + n)

/-- what Atoi answers -/
def atoiV (s : Bs) (v : Value) : Prop := match Lib.atoiAll s with
  | .ok k => v = .tuple #[.int .i64 k, .nilIface]
  | _ => ∃ k t p, v = .tuple #[.int .i64 k, .iface t p]
theorem atoi_ok (W : World) (hT : Tabs Tryd.prog W) (s : Bs) (hs : s.length ≤ 1073741824) : Spec Tryd.prog 76 [.string (sB s)] [0] [ro W]
    fun F v Rs' => atoiV s v ∧ Rs' = (0, ro W) :: F := by
  intro w0 F w hw
  have hw' : Sat w0 w ((0, ro W) :: F) := hw
  have hsz : (sB s).size = s.length := sB_size s
  have hd : (sB s).data.toList = s := by simp
  cases hA : Lib.atoiAll s
  · rename_i k
    refine Calls.mono (Any.strconv_Atoi_ok Tryd.laysAtoi (sB s) (by omega) k (by rw [hd]; exact hA) w) ?_
    rintro e w' ⟨rfl, h⟩
    refine ⟨_, _, rfl, ⟨by unfold atoiV; rw [hA], rfl⟩, ?_⟩
    rcases h with rfl | ⟨t, rfl⟩
    · exact hw'
    · rw [bytesWorld_eq]
      exact ((hw'.draw (w.drawn + 1)).new _).ent (Ent.drop _ _)
  · obtain ⟨t, p, hv⟩ := hT.syn
    refine Calls.mono (Any.strconv_Atoi_syntax_var Tryd.laysAtoi (sB s) (by omega) (by rw [hd]; exact hA) t p w (ro_var hv hw')) ?_
    rintro e w' ⟨N, rfl, _, _, hb⟩
    exact ⟨_, _, rfl, ⟨by unfold atoiV; rw [hA]; exact ⟨_, _, _, rfl⟩, rfl⟩, hw'.below hb⟩
  · obtain ⟨t, p, hv⟩ := hT.rng
    refine Calls.mono (Any.strconv_Atoi_range_var Tryd.laysAtoi (sB s) (by omega) (by rw [hd]; exact hA) t p w (ro_var hv hw')) ?_
    rintro e w' ⟨N, rfl, _, _, hb⟩
    exact ⟨_, _, rfl, ⟨by unfold atoiV; rw [hA]; exact ⟨_, _, _, rfl⟩, rfl⟩, hw'.below hb⟩

set_option maxHeartbeats 1000000 in
theorem sNumber_ok (W : World) (hT : Tabs Tryd.prog W) (s : Bs) (hs : s.length ≤ 1073741824) : SpecP Tryd.prog 64 [.string (sB s)] [0] [ro W]
    (fun F v Rs' => ∃ k, numOf s = some k ∧ v = .int .i64 k ∧ Rs' = (0, ro W) :: F)
    (fun F v Rs' => numOf s = none ∧ v = .iface 27 (.int .i64 262) ∧ Rs' = (0, ro W) :: F) := by
  refine spec_ofP Tryd.func64 rfl Tryd.ntmps64 rfl ?_
  intro w0 F
  repeat' (first | with_reducible (first | refine go1 ?_ | refine sct ?_ | refine scf ?_ | refine sgr ?_) | fail)
  refine sw_callf (atoi_ok W hT s hs) ?_
  rintro v _ ⟨hv, rfl⟩
  unfold atoiV at hv
  cases hA : Lib.atoiAll s
  · rename_i k
    rw [hA] at hv
    simp only at hv
    subst hv
    have hk := Lib.atoiAll_bounds hA
    have hn : numOf s = if Lib.itoa k = s then some k else none := by unfold numOf; rw [hA]
    repeat' (first | with_reducible (first | refine go1 ?_ | refine sct ?_ | refine scf ?_ | refine sgr ?_) | ((with_reducible refine sw_callf (itoa_ok W hT k hk) ?_); rintro _ _ ⟨rfl, rfl⟩) | with_reducible refine sw_panic ?_ | with_reducible refine sw_guard_skip_u ?_ | (with_reducible refine sc_cond (fun h => ?_) (fun h => ?_)) <;> (try (exfalso; first | contradiction | omega | exact h Iff.rfl)) | (with_reducible refine sw_guard_split (fun h => ?_) (fun h => ?_)) <;> (try (exfalso; first | contradiction | omega | exact h Iff.rfl)) | (with_reducible refine sw_pick (fun h => ?_) (fun h => ?_)) <;> (try (exfalso; first | contradiction | omega | exact h Iff.rfl)) | fail)
    · exact sqx_pan ⟨_, ⟨by rw [hn, if_neg h], rfl, rfl⟩, Ent.refl _⟩
    · refine sqx ?_
      refine sq_ret1 Tryd.results64 ?_
      exact ⟨_, ⟨_, by rw [hn, if_pos (Classical.not_not.1 h)], rfl, rfl⟩, Ent.refl _⟩
  · rw [hA] at hv
    simp only at hv
    obtain ⟨k, t, p, rfl⟩ := hv
    have hn : numOf s = none := by unfold numOf; rw [hA]
    repeat' (first | with_reducible (first | refine go1 ?_ | refine sct ?_ | refine scf ?_ | refine sgr ?_) | with_reducible refine sw_panic ?_ | with_reducible refine sw_guard_skip_u ?_ | (with_reducible refine sc_cond (fun h => ?_) (fun h => ?_)) <;> (try (exfalso; first | contradiction | omega | exact h Iff.rfl)) | (with_reducible refine sw_guard_split (fun h => ?_) (fun h => ?_)) <;> (try (exfalso; first | contradiction | omega | exact h Iff.rfl)) | (with_reducible refine sw_pick (fun h => ?_) (fun h => ?_)) <;> (try (exfalso; first | contradiction | omega | exact h Iff.rfl)) | fail)
    exact sqx_pan ⟨_, ⟨hn, rfl, rfl⟩, Ent.refl _⟩
  · rw [hA] at hv
    simp only at hv
    obtain ⟨k, t, p, rfl⟩ := hv
    have hn : numOf s = none := by unfold numOf; rw [hA]
    repeat' (first | with_reducible (first | refine go1 ?_ | refine sct ?_ | refine scf ?_ | refine sgr ?_) | with_reducible refine sw_panic ?_ | with_reducible refine sw_guard_skip_u ?_ | (with_reducible refine sc_cond (fun h => ?_) (fun h => ?_)) <;> (try (exfalso; first | contradiction | omega | exact h Iff.rfl)) | (with_reducible refine sw_guard_split (fun h => ?_) (fun h => ?_)) <;> (try (exfalso; first | contradiction | omega | exact h Iff.rfl)) | (with_reducible refine sw_pick (fun h => ?_) (fun h => ?_)) <;> (try (exfalso; first | contradiction | omega | exact h Iff.rfl)) | fail)
    exact sqx_pan ⟨_, ⟨hn, rfl, rfl⟩, Ent.refl _⟩
end Go.Gsl
