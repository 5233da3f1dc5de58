/- Quote, of the program and of the document. -/
import Derived.Test.YtjfieigjicbldaaDoorGVB
import Derived.Test.YtjfieigjicbldaaDoorGE
import Derived.Room.Shelf.Join48
import Derived.Test.YtjfieigjicbldaaDoorRows
import Derived.Deep.DeepWitnessRowRef
import Derived.Lib.LaidTab
import Derived.Stop.LaidErr
import Derived.Deep.Slices
namespace Go.Gsl
set_option linter.unusedVariables false
open Go.Proofs

section
variable {P : Program} {n : Nat} {w0 : World} {e : Env} {Rs : List Res} {ty t t' : TypeId} {x y : Operand}
theorem runop_shr4 {k' : IntKind} {a b : Int} [hx : Ev n e x (.int .u8 a)] [hy : Ev n e y (.int k' b)] (hb : b = 4) (ha : 0 ≤ a) : RunOp P n w0 e Rs (.binOp .shr t x y t') ty (.int .u8 (a / 16)) := by
  subst hb
  have h : a.fdiv (2 ^ min (4 : Int).toNat IntKind.u8.bits) = a / 16 := by
    rw [show (2 : Int) ^ min (4 : Int).toNat IntKind.u8.bits = 16 from rfl, Int.fdiv_eq_ediv_of_nonneg _ (by omega)]
  rw [← h]
  exact ⟨fun o h1 _ w _ => run_shift h1 (.inr rfl) w (by simp [Op.shift])⟩
theorem runop_and15 {a : Int} [hx : Ev n e x (.int .u8 a)] [hy : Ev n e y (.int .u8 15)] (ha : 0 ≤ a ∧ a ≤ 255) : RunOp P n w0 e Rs (.binOp .and t x y t') ty (.int .u8 (a % 16)) := by
  have h : iand .u8 a 15 = a % 16 := by
    have key : ∀ k : Fin 256, iand .u8 (k.val : Int) 15 = (k.val : Int) % 16 := by decide +kernel
    have := key ⟨a.toNat, by omega⟩
    simp only at this
    rwa [show ((a.toNat : Nat) : Int) = a by omega] at this
  rw [← h]
  exact RunOp.pure _ _ _
theorem runop_quo16 {a : Int} [hx : Ev n e x (.int .u8 a)] [hy : Ev n e y (.int .u8 16)] (ha : 0 ≤ a ∧ a ≤ 255) : RunOp P n w0 e Rs (.binOp .quo t x y t') ty (.int .u8 (a / 16)) := by
  have h : IntKind.u8.wrap (a.tdiv 16) = a / 16 := by
    rw [Int.tdiv_eq_ediv_of_nonneg ha.1, wrap_u8 (by omega)]
  rw [← h]
  exact runop_quo (by omega)
end
theorem digAt_get (k : Int) (h : 0 ≤ k ∧ k < 16) : ([48, 49, 50, 51, 52, 53, 54, 55, 56, 57, 97, 98, 99, 100, 101, 102] : Bs).getD k.toNat 0 = digAt k := by
  have key : ∀ j : Fin 16, ([48, 49, 50, 51, 52, 53, 54, 55, 56, 57, 97, 98, 99, 100, 101, 102] : Bs).getD j.val 0 = digs.getD j.val 48 := by decide +kernel
  exact key ⟨k.toNat, by omega⟩
theorem quoteC_len (b : UInt8) : (quoteC b).length ≤ 4 := by
  unfold quoteC
  split
  · simp
  · split <;> simp
theorem quotes_len (s : Bs) : (s.flatMap quoteC).length ≤ s.length * 4 := by
  induction s with
  | nil => simp
  | cons b s ih =>
    rw [List.flatMap_cons, List.length_append, List.length_cons]
    have := quoteC_len b
    omega
theorem take_flat {s : Bs} {i : Nat} (h : i < s.length) : (s.take (i + 1)).flatMap quoteC = (s.take i).flatMap quoteC ++ quoteC (s.getD i 0) := by
  have h1 : s.take (i + 1) = s.take i ++ [s.getD i 0] := by rw [List.take_add_one, List.getElem?_eq_getElem h, List.getD_eq_getElem?_getD, List.getElem?_eq_getElem h]; rfl
  rw [h1, List.flatMap_append]
  simp
section
variable {P : Program} {ops : List Oper} {Q : Cont} {n : Nat} {w0 : World} {rest : List Oper} {e : Env} {Rs F : List Res} {ty : TypeId}
/-- append(b, ys...), the ys just made -/
theorem sw_appB {d b7 : Nat} {t el t' : TypeId} {fr : Nat × Nat} {nb : Nat} {x y : Operand} {z : Value} {m' c' : Nat} {pos : String} {after : Array Edge} {F2 : List Res} (acc ys : Bs) (cs : List Value) (o : Option (Nat × List Value)) (ho : o ≠ none)
    (hcs : cs = (ys.map iv).map (Value.int .u8)) (hm : m' = ys.length)
    [hx : Ev n e x (bufV (acc.map iv).length o)] [hy : Ev n e y (.slice (some ⟨b7, 0, none⟩) m' c')] [he : Elem P t el 1 nb z] [hz : One z] [tk : TakeO Rs (vG .u8 el (acc.map iv)) o F] [tk2 : Take Rs b7 (pts b7 (.cells cs.toArray t' fr)) F2]
    (h : acc.length + ys.length ≤ 9223372036854775807 ∧ (acc.length + ys.length) * nb ≤ 140737488355328)
    (k : ∀ o', o' ≠ none → SW P ops Q n w0 rest ((d, bufV ((acc ++ ys).map iv).length o') :: e) (oR (vG .u8 el ((acc ++ ys).map iv)) F o')) :
    SW P ops Q n w0 ({ dst := some d, op := .call { callee := .builtin .append, args := [x, y].toArray, argTypes := [t, t].toArray }, type := ty, pos := pos, after := after, guard := none } :: rest) e Rs := by
  subst hcs hm
  refine sw_appendV (kd := .u8) (acc.map iv) (ys.map iv) o (fun h => absurd h ho) src_pts0 ⟨by simp, by simp only [List.length_map]; exact h.1, by simp only [List.length_map]; exact h.2⟩ fun o' ho' => ?_
  have := k o' fun h => ho (ho'.1 h).1
  rw [List.map_append] at this
  exact this
end

set_option maxHeartbeats 2000000 in
theorem sQuote_ok (s : Bs) (hs : s.length ≤ 1048576) : Spec Tryd.prog 13 [.string (sB s)] [] [] fun F v Rs' => v = .string (sB (quoteS s)) ∧ Rs' = F := by
  refine spec_of Tryd.func13 rfl Tryd.ntmps13 rfl ?_
  intro w0 F
  repeat' (first | with_reducible (first | refine go1 ?_ | refine sct ?_ | refine scf ?_ | refine sgr ?_) | with_reducible refine sw_build1 fun b0 => ?_ | fail)
  refine sc_loop (α := { x : Nat × Option (Nat × List Value) // x.1 ≤ s.length ∧ x.2 ≠ none })
    (fun x => [(0, .string (sB s)), (8, .int .i64 (s.length : Int)), (9, .int .i64 (x.1.1 : Int)), (3, bufV ((34 :: (s.take x.1.1).flatMap quoteC : Bs).map iv).length x.1.2)])
    (fun x => oR (vG .u8 5 ((34 :: (s.take x.1.1).flatMap quoteC : Bs).map iv)) F x.1.2) (fun x => s.length - x.1.1) ⟨(0, some (b0, [])), Nat.zero_le _, by simp⟩ ?_ ?_ ?_
  · show says _ [(0, .string (sB s)), (8, .int .i64 (s.length : Int)), (9, .int .i64 0), (3, .slice (some ⟨b0, 0, none⟩) 1 1)]
    repeat' (first | exact says_nil | refine says_cons rfl ?_ | refine says_cons (by simp) ?_)
  · show Ent _ ((b0, pts b0 (.cells [Value.int .u8 34].toArray 5 (0, 0))) :: F)
    repeat' (first | with_reducible exact Ent.refl _ | with_reducible refine Ent.take_eq ?_ ?_ | rfl | with_reducible refine Ent.oR ?_ | with_reducible refine Ent.trans (oR.drop _ _ _) ?_ | with_reducible refine Ent.trans (Ent.drop _ _) ?_)
  rintro ⟨⟨i, o⟩, hi, ho⟩ e
  dsimp only at hi ho
  simp only [List.cons_append, List.nil_append]
  have hql : ((s.take i).flatMap quoteC).length ≤ 4194304 := by
    have h1 := quotes_len (s.take i)
    have h2 : (s.take i).length ≤ s.length := by rw [List.length_take]; omega
    omega
  by_cases hil : i < s.length
  · have htf := take_flat hil
    obtain ⟨c, hc⟩ : ∃ c, s.getD i 0 = c := ⟨_, rfl⟩
    have hcs : s[((i : Int)).toNat]? = some c := by rw [Int.toNat_natCast, ← hc, List.getD_eq_getElem?_getD, List.getElem?_eq_getElem hil]; rfl
    rw [hc] at htf
    obtain ⟨acc, hacc⟩ : ∃ acc : Bs, (34 :: (s.take i).flatMap quoteC : Bs) = acc := ⟨_, rfl⟩
    have hacl : acc.length ≤ 4194305 := by rw [← hacc, List.length_cons]; omega
    rw [hacc]
    repeat' (first | with_reducible refine sw_in (by omega) ?_ | with_reducible (first | refine go1 ?_ | refine sct ?_ | refine scf ?_ | refine sgr ?_) | with_reducible refine sw_op (h := runop_sidx (by omega) hcs) ?_ | with_reducible refine sw_guard_skip_u ?_ | (with_reducible refine sc_cond (fun h => ?_) (fun h => ?_)) <;> (try (exfalso; first | contradiction | omega | exact h Iff.rfl)) | (with_reducible refine sw_guard_split (fun h => ?_) (fun h => ?_)) <;> (try (exfalso; first | contradiction | omega | exact h Iff.rfl)) | (with_reducible refine sw_pick (fun h => ?_) (fun h => ?_)) <;> (try (exfalso; first | contradiction | omega | exact h Iff.rfl)) | fail)
    · have hqc : quoteC c = [92, c] := by unfold quoteC; rw [if_pos (.inl h)]
      refine sw_buildSlice [.int .u8 92, .int .u8 (iv c)] (by omega) rfl fun b7 => ?_
      refine sw_appB (b7 := b7) acc [92, c] _ o ho rfl rfl ⟨by simp only [List.length_cons, List.length_nil]; omega, by simp only [List.length_cons, List.length_nil]; omega⟩ fun o' ho' => ?_
      have hq : (34 :: (s.take (i + 1)).flatMap quoteC : Bs) = acc ++ [92, c] := by rw [htf, ← hacc]; simp [hqc]
      repeat' (first | with_reducible refine sw_in (by omega) ?_ | with_reducible (first | refine go1 ?_ | refine sct ?_ | refine scf ?_ | refine sgr ?_) | fail)
      refine sq_round ⟨(i + 1, o'), by dsimp only; omega, ho'⟩ (by show s.length - (i + 1) < s.length - i; omega) ?_ ?_
      · show says _ [(0, .string (sB s)), (8, .int .i64 (s.length : Int)), (9, .int .i64 ((i + 1 : Nat) : Int)), (3, bufV ((34 :: (s.take (i + 1)).flatMap quoteC : Bs).map iv).length o')]
        rw [hq]
        repeat' (first | exact says_nil | refine says_cons rfl ?_ | refine says_cons (by simp) ?_)
      · show Ent _ (oR (vG .u8 5 ((34 :: (s.take (i + 1)).flatMap quoteC : Bs).map iv)) F o')
        rw [hq]
        repeat' (first | with_reducible exact Ent.refl _ | with_reducible refine Ent.take_eq ?_ ?_ | rfl | with_reducible refine Ent.oR ?_ | with_reducible refine Ent.trans (oR.drop _ _ _) ?_ | with_reducible refine Ent.trans (Ent.drop _ _) ?_)
    · have hqc : quoteC c = [92, c] := by unfold quoteC; rw [if_pos (.inr h)]
      refine sw_buildSlice [.int .u8 92, .int .u8 (iv c)] (by omega) rfl fun b7 => ?_
      refine sw_appB (b7 := b7) acc [92, c] _ o ho rfl rfl ⟨by simp only [List.length_cons, List.length_nil]; omega, by simp only [List.length_cons, List.length_nil]; omega⟩ fun o' ho' => ?_
      have hq : (34 :: (s.take (i + 1)).flatMap quoteC : Bs) = acc ++ [92, c] := by rw [htf, ← hacc]; simp [hqc]
      repeat' (first | with_reducible refine sw_in (by omega) ?_ | with_reducible (first | refine go1 ?_ | refine sct ?_ | refine scf ?_ | refine sgr ?_) | fail)
      refine sq_round ⟨(i + 1, o'), by dsimp only; omega, ho'⟩ (by show s.length - (i + 1) < s.length - i; omega) ?_ ?_
      · show says _ [(0, .string (sB s)), (8, .int .i64 (s.length : Int)), (9, .int .i64 ((i + 1 : Nat) : Int)), (3, bufV ((34 :: (s.take (i + 1)).flatMap quoteC : Bs).map iv).length o')]
        rw [hq]
        repeat' (first | exact says_nil | refine says_cons rfl ?_ | refine says_cons (by simp) ?_)
      · show Ent _ (oR (vG .u8 5 ((34 :: (s.take (i + 1)).flatMap quoteC : Bs).map iv)) F o')
        rw [hq]
        repeat' (first | with_reducible exact Ent.refl _ | with_reducible refine Ent.take_eq ?_ ?_ | rfl | with_reducible refine Ent.oR ?_ | with_reducible refine Ent.trans (oR.drop _ _ _) ?_ | with_reducible refine Ent.trans (Ent.drop _ _) ?_)
    · have hqc : quoteC c = [92, 120, digAt (iv c / 16), digAt (iv c % 16)] := by unfold quoteC; rw [if_neg (by rintro (g | g) <;> contradiction), if_pos (.inl h)]
      have hb := iv_lt c
      have hA : 0 ≤ iv c / 16 ∧ iv c / 16 < (([48, 49, 50, 51, 52, 53, 54, 55, 56, 57, 97, 98, 99, 100, 101, 102] : Bs).length : Int) := by show _ ∧ _ < (16 : Int); omega
      have hB : 0 ≤ iv c % 16 ∧ iv c % 16 < (([48, 49, 50, 51, 52, 53, 54, 55, 56, 57, 97, 98, 99, 100, 101, 102] : Bs).length : Int) := by show _ ∧ _ < (16 : Int); omega
      have hdA := digAt_get (iv c / 16) (by omega)
      have hdB := digAt_get (iv c % 16) (by omega)
      have h4 : [Value.int .u8 92, .int .u8 120, .int .u8 (iv (([48, 49, 50, 51, 52, 53, 54, 55, 56, 57, 97, 98, 99, 100, 101, 102] : Bs).getD (iv c / 16).toNat 0)), .int .u8 (iv (([48, 49, 50, 51, 52, 53, 54, 55, 56, 57, 97, 98, 99, 100, 101, 102] : Bs).getD (iv c % 16).toNat 0))] = (([92, 120, digAt (iv c / 16), digAt (iv c % 16)] : Bs).map iv).map (Value.int .u8) := by rw [hdA, hdB]; rfl
      have h4l : acc.length + ([92, 120, digAt (iv c / 16), digAt (iv c % 16)] : Bs).length ≤ 9223372036854775807 ∧ (acc.length + ([92, 120, digAt (iv c / 16), digAt (iv c % 16)] : Bs).length) * 1 ≤ 140737488355328 := by simp only [List.length_cons, List.length_nil]; omega
      refine sc_lin ([]) (llp 0 (llp 1 (llp 2 (llp 3 (llp 4 (llp 5 (llp 6 (lle 7 (lle 8 (llp 9 ll0)))))))))) (by kernel_rfl) rfl (by kernel_rfl) ?_
      all_goals (iterate 2 refine go1l ?_)
      all_goals refine sl_take (h := runop_shr4 rfl hb.1) ?_
      all_goals refine sl_take (h := runop_sget hA) ?_
      all_goals refine go1l ?_
      all_goals refine sl_take (h := runop_and15 hb) ?_
      all_goals refine sl_take (h := runop_sget hB) ?_
      all_goals refine sl_eff ?_
      all_goals (repeat' (first | with_reducible (first | refine go1 ?_ | refine sct ?_ | refine scf ?_ | refine sgr ?_) | with_reducible refine sw_buildSlice [.int .u8 92, .int .u8 120, .int .u8 (iv (([48, 49, 50, 51, 52, 53, 54, 55, 56, 57, 97, 98, 99, 100, 101, 102] : Bs).getD (iv c / 16).toNat 0)), .int .u8 (iv (([48, 49, 50, 51, 52, 53, 54, 55, 56, 57, 97, 98, 99, 100, 101, 102] : Bs).getD (iv c % 16).toNat 0))] (by omega) rfl fun b7 => ?_ | with_reducible refine sw_appB (b7 := b7) acc [92, 120, digAt (iv c / 16), digAt (iv c % 16)] _ o ho h4 (by simp) h4l fun o' ho' => ?_ | with_reducible refine sl_back ?_ | fail))
      all_goals refine sl_eff ?_
      all_goals (repeat' (first | with_reducible (first | refine go1 ?_ | refine sct ?_ | refine scf ?_ | refine sgr ?_) | with_reducible refine sw_buildSlice [.int .u8 92, .int .u8 120, .int .u8 (iv (([48, 49, 50, 51, 52, 53, 54, 55, 56, 57, 97, 98, 99, 100, 101, 102] : Bs).getD (iv c / 16).toNat 0)), .int .u8 (iv (([48, 49, 50, 51, 52, 53, 54, 55, 56, 57, 97, 98, 99, 100, 101, 102] : Bs).getD (iv c % 16).toNat 0))] (by omega) rfl fun b7 => ?_ | with_reducible refine sw_appB (b7 := b7) acc [92, 120, digAt (iv c / 16), digAt (iv c % 16)] _ o ho h4 (by simp) h4l fun o' ho' => ?_ | with_reducible refine sl_back ?_ | fail))
      all_goals refine go1l ?_
      all_goals refine sl_done ?_
      have hq : (34 :: (s.take (i + 1)).flatMap quoteC : Bs) = acc ++ [92, 120, digAt (iv c / 16), digAt (iv c % 16)] := by rw [htf, ← hacc]; simp [hqc]
      repeat' (first | with_reducible refine sw_in (by omega) ?_ | with_reducible (first | refine go1 ?_ | refine sct ?_ | refine scf ?_ | refine sgr ?_) | fail)
      refine sq_round ⟨(i + 1, o'), by dsimp only; omega, ho'⟩ (by show s.length - (i + 1) < s.length - i; omega) ?_ ?_
      · show says _ [(0, .string (sB s)), (8, .int .i64 (s.length : Int)), (9, .int .i64 ((i + 1 : Nat) : Int)), (3, bufV ((34 :: (s.take (i + 1)).flatMap quoteC : Bs).map iv).length o')]
        rw [hq]
        repeat' (first | exact says_nil | refine says_cons rfl ?_ | refine says_cons (by simp) ?_)
      · show Ent _ (oR (vG .u8 5 ((34 :: (s.take (i + 1)).flatMap quoteC : Bs).map iv)) F o')
        rw [hq]
        repeat' (first | with_reducible exact Ent.refl _ | with_reducible refine Ent.take_eq ?_ ?_ | rfl | with_reducible refine Ent.oR ?_ | with_reducible refine Ent.trans (oR.drop _ _ _) ?_ | with_reducible refine Ent.trans (Ent.drop _ _) ?_)
    · have hqc : quoteC c = [92, 120, digAt (iv c / 16), digAt (iv c % 16)] := by unfold quoteC; rw [if_neg (by rintro (g | g) <;> contradiction), if_pos (.inr h)]
      have hb := iv_lt c
      have hA : 0 ≤ iv c / 16 ∧ iv c / 16 < (([48, 49, 50, 51, 52, 53, 54, 55, 56, 57, 97, 98, 99, 100, 101, 102] : Bs).length : Int) := by show _ ∧ _ < (16 : Int); omega
      have hB : 0 ≤ iv c % 16 ∧ iv c % 16 < (([48, 49, 50, 51, 52, 53, 54, 55, 56, 57, 97, 98, 99, 100, 101, 102] : Bs).length : Int) := by show _ ∧ _ < (16 : Int); omega
      have hdA := digAt_get (iv c / 16) (by omega)
      have hdB := digAt_get (iv c % 16) (by omega)
      have h4 : [Value.int .u8 92, .int .u8 120, .int .u8 (iv (([48, 49, 50, 51, 52, 53, 54, 55, 56, 57, 97, 98, 99, 100, 101, 102] : Bs).getD (iv c / 16).toNat 0)), .int .u8 (iv (([48, 49, 50, 51, 52, 53, 54, 55, 56, 57, 97, 98, 99, 100, 101, 102] : Bs).getD (iv c % 16).toNat 0))] = (([92, 120, digAt (iv c / 16), digAt (iv c % 16)] : Bs).map iv).map (Value.int .u8) := by rw [hdA, hdB]; rfl
      have h4l : acc.length + ([92, 120, digAt (iv c / 16), digAt (iv c % 16)] : Bs).length ≤ 9223372036854775807 ∧ (acc.length + ([92, 120, digAt (iv c / 16), digAt (iv c % 16)] : Bs).length) * 1 ≤ 140737488355328 := by simp only [List.length_cons, List.length_nil]; omega
      refine sc_lin ([]) (llp 0 (llp 1 (llp 2 (llp 3 (llp 4 (llp 5 (llp 6 (lle 7 (lle 8 (llp 9 ll0)))))))))) (by kernel_rfl) rfl (by kernel_rfl) ?_
      all_goals (iterate 2 refine go1l ?_)
      all_goals refine sl_take (h := runop_shr4 rfl hb.1) ?_
      all_goals refine sl_take (h := runop_sget hA) ?_
      all_goals refine go1l ?_
      all_goals refine sl_take (h := runop_and15 hb) ?_
      all_goals refine sl_take (h := runop_sget hB) ?_
      all_goals refine sl_eff ?_
      all_goals (repeat' (first | with_reducible (first | refine go1 ?_ | refine sct ?_ | refine scf ?_ | refine sgr ?_) | with_reducible refine sw_buildSlice [.int .u8 92, .int .u8 120, .int .u8 (iv (([48, 49, 50, 51, 52, 53, 54, 55, 56, 57, 97, 98, 99, 100, 101, 102] : Bs).getD (iv c / 16).toNat 0)), .int .u8 (iv (([48, 49, 50, 51, 52, 53, 54, 55, 56, 57, 97, 98, 99, 100, 101, 102] : Bs).getD (iv c % 16).toNat 0))] (by omega) rfl fun b7 => ?_ | with_reducible refine sw_appB (b7 := b7) acc [92, 120, digAt (iv c / 16), digAt (iv c % 16)] _ o ho h4 (by simp) h4l fun o' ho' => ?_ | with_reducible refine sl_back ?_ | fail))
      all_goals refine sl_eff ?_
      all_goals (repeat' (first | with_reducible (first | refine go1 ?_ | refine sct ?_ | refine scf ?_ | refine sgr ?_) | with_reducible refine sw_buildSlice [.int .u8 92, .int .u8 120, .int .u8 (iv (([48, 49, 50, 51, 52, 53, 54, 55, 56, 57, 97, 98, 99, 100, 101, 102] : Bs).getD (iv c / 16).toNat 0)), .int .u8 (iv (([48, 49, 50, 51, 52, 53, 54, 55, 56, 57, 97, 98, 99, 100, 101, 102] : Bs).getD (iv c % 16).toNat 0))] (by omega) rfl fun b7 => ?_ | with_reducible refine sw_appB (b7 := b7) acc [92, 120, digAt (iv c / 16), digAt (iv c % 16)] _ o ho h4 (by simp) h4l fun o' ho' => ?_ | with_reducible refine sl_back ?_ | fail))
      all_goals refine go1l ?_
      all_goals refine sl_done ?_
      have hq : (34 :: (s.take (i + 1)).flatMap quoteC : Bs) = acc ++ [92, 120, digAt (iv c / 16), digAt (iv c % 16)] := by rw [htf, ← hacc]; simp [hqc]
      repeat' (first | with_reducible refine sw_in (by omega) ?_ | with_reducible (first | refine go1 ?_ | refine sct ?_ | refine scf ?_ | refine sgr ?_) | fail)
      refine sq_round ⟨(i + 1, o'), by dsimp only; omega, ho'⟩ (by show s.length - (i + 1) < s.length - i; omega) ?_ ?_
      · show says _ [(0, .string (sB s)), (8, .int .i64 (s.length : Int)), (9, .int .i64 ((i + 1 : Nat) : Int)), (3, bufV ((34 :: (s.take (i + 1)).flatMap quoteC : Bs).map iv).length o')]
        rw [hq]
        repeat' (first | exact says_nil | refine says_cons rfl ?_ | refine says_cons (by simp) ?_)
      · show Ent _ (oR (vG .u8 5 ((34 :: (s.take (i + 1)).flatMap quoteC : Bs).map iv)) F o')
        rw [hq]
        repeat' (first | with_reducible exact Ent.refl _ | with_reducible refine Ent.take_eq ?_ ?_ | rfl | with_reducible refine Ent.oR ?_ | with_reducible refine Ent.trans (oR.drop _ _ _) ?_ | with_reducible refine Ent.trans (Ent.drop _ _) ?_)
    · have hqc : quoteC c = [c] := by unfold quoteC; rw [if_neg (by rintro (g | g) <;> contradiction), if_neg (by rintro (g | g) <;> contradiction)]
      refine sw_build1 fun b7 => ?_
      refine sw_appB (b7 := b7) acc [c] _ o ho rfl rfl ⟨by simp only [List.length_cons, List.length_nil]; omega, by simp only [List.length_cons, List.length_nil]; omega⟩ fun o' ho' => ?_
      have hq : (34 :: (s.take (i + 1)).flatMap quoteC : Bs) = acc ++ [c] := by rw [htf, ← hacc]; simp [hqc]
      repeat' (first | with_reducible refine sw_in (by omega) ?_ | with_reducible (first | refine go1 ?_ | refine sct ?_ | refine scf ?_ | refine sgr ?_) | fail)
      refine sq_round ⟨(i + 1, o'), by dsimp only; omega, ho'⟩ (by show s.length - (i + 1) < s.length - i; omega) ?_ ?_
      · show says _ [(0, .string (sB s)), (8, .int .i64 (s.length : Int)), (9, .int .i64 ((i + 1 : Nat) : Int)), (3, bufV ((34 :: (s.take (i + 1)).flatMap quoteC : Bs).map iv).length o')]
        rw [hq]
        repeat' (first | exact says_nil | refine says_cons rfl ?_ | refine says_cons (by simp) ?_)
      · show Ent _ (oR (vG .u8 5 ((34 :: (s.take (i + 1)).flatMap quoteC : Bs).map iv)) F o')
        rw [hq]
        repeat' (first | with_reducible exact Ent.refl _ | with_reducible refine Ent.take_eq ?_ ?_ | rfl | with_reducible refine Ent.oR ?_ | with_reducible refine Ent.trans (oR.drop _ _ _) ?_ | with_reducible refine Ent.trans (Ent.drop _ _) ?_)
  · have hie : i = s.length := by omega
    subst hie
    rw [List.take_length] at hql ⊢
    obtain ⟨acc, hacc⟩ : ∃ acc : Bs, (34 :: s.flatMap quoteC : Bs) = acc := ⟨_, rfl⟩
    have hacl : acc.length ≤ 4194305 := by rw [← hacc, List.length_cons]; omega
    rw [hacc]
    repeat' (first | with_reducible (first | refine go1 ?_ | refine sct ?_ | refine scf ?_ | refine sgr ?_) | with_reducible refine sw_build1 fun b7 => ?_ | (with_reducible refine sc_cond (fun h => ?_) (fun h => ?_)) <;> (try (exfalso; first | contradiction | omega | exact h Iff.rfl)) | fail)
    refine sw_appB (b7 := b7) acc [34] _ o ho rfl rfl ⟨by simp only [List.length_cons, List.length_nil]; omega, by simp only [List.length_cons, List.length_nil]; omega⟩ fun o' ho' => ?_
    refine sw_bytesV (el' := 5) (acc ++ [34]) o' (fun h => absurd h ho') ?_
    repeat' (first | with_reducible (first | refine go1 ?_ | refine sct ?_ | refine scf ?_ | refine sgr ?_) | fail)
    refine sq_ret1 Tryd.results13 ?_
    refine ⟨_, ⟨by rw [← hacc]; rfl, rfl⟩, ?_⟩
    repeat' (first | with_reducible exact Ent.refl _ | with_reducible refine Ent.take_eq ?_ ?_ | rfl | with_reducible refine Ent.oR ?_ | with_reducible refine Ent.trans (oR.drop _ _ _) ?_ | with_reducible refine Ent.trans (Ent.drop _ _) ?_)
end Go.Gsl

namespace Go.Gsl
set_option linter.unusedVariables false
open Go.Proofs

set_option maxHeartbeats 2000000 in
theorem qQuote_ok (s : Bs) (hs : s.length ≤ 1048576) : Spec Tryd.prog 14 [.string (sB s)] [] [] fun F v Rs' => v = .string (sB (quoteS s)) ∧ Rs' = F := by
  refine spec_of Tryd.func14 rfl Tryd.ntmps14 rfl ?_
  intro w0 F
  repeat' (first | with_reducible (first | refine go1 ?_ | refine sct ?_ | refine scf ?_ | refine sgr ?_) | with_reducible refine sw_build1 fun b0 => ?_ | fail)
  refine sc_loop (α := { x : Nat × Option (Nat × List Value) // x.1 ≤ s.length ∧ x.2 ≠ none })
    (fun x => [(0, .string (sB s)), (4, .int .i64 (x.1.1 : Int)), (3, bufV ((34 :: (s.take x.1.1).flatMap quoteC : Bs).map iv).length x.1.2)])
    (fun x => oR (vG .u8 5 ((34 :: (s.take x.1.1).flatMap quoteC : Bs).map iv)) F x.1.2) (fun x => s.length - x.1.1) ⟨(0, some (b0, [])), Nat.zero_le _, by simp⟩ ?_ ?_ ?_
  · show says _ [(0, .string (sB s)), (4, .int .i64 0), (3, .slice (some ⟨b0, 0, none⟩) 1 1)]
    repeat' (first | exact says_nil | refine says_cons rfl ?_ | refine says_cons (by simp) ?_)
  · show Ent _ ((b0, pts b0 (.cells [Value.int .u8 34].toArray 5 (0, 0))) :: F)
    repeat' (first | with_reducible exact Ent.refl _ | with_reducible refine Ent.take_eq ?_ ?_ | rfl | with_reducible refine Ent.oR ?_ | with_reducible refine Ent.trans (oR.drop _ _ _) ?_ | with_reducible refine Ent.trans (Ent.drop _ _) ?_)
  rintro ⟨⟨i, o⟩, hi, ho⟩ e
  dsimp only at hi ho
  simp only [List.cons_append, List.nil_append]
  have hql : ((s.take i).flatMap quoteC).length ≤ 4194304 := by
    have h1 := quotes_len (s.take i)
    have h2 : (s.take i).length ≤ s.length := by rw [List.length_take]; omega
    omega
  by_cases hil : i < s.length
  · have htf := take_flat hil
    obtain ⟨c, hc⟩ : ∃ c, s.getD i 0 = c := ⟨_, rfl⟩
    have hcs : s[((i : Int)).toNat]? = some c := by rw [Int.toNat_natCast, ← hc, List.getD_eq_getElem?_getD, List.getElem?_eq_getElem hil]; rfl
    rw [hc] at htf
    obtain ⟨acc, hacc⟩ : ∃ acc : Bs, (34 :: (s.take i).flatMap quoteC : Bs) = acc := ⟨_, rfl⟩
    have hacl : acc.length ≤ 4194305 := by rw [← hacc, List.length_cons]; omega
    rw [hacc]
    repeat' (first | with_reducible refine sw_in (by omega) ?_ | with_reducible (first | refine go1 ?_ | refine sct ?_ | refine scf ?_ | refine sgr ?_) | with_reducible refine sw_op (h := runop_sidx (by omega) hcs) ?_ | with_reducible refine sw_guard_skip_u ?_ | (with_reducible refine sc_cond (fun h => ?_) (fun h => ?_)) <;> (try (exfalso; first | contradiction | omega | exact h Iff.rfl)) | (with_reducible refine sw_guard_split (fun h => ?_) (fun h => ?_)) <;> (try (exfalso; first | contradiction | omega | exact h Iff.rfl)) | (with_reducible refine sw_pick (fun h => ?_) (fun h => ?_)) <;> (try (exfalso; first | contradiction | omega | exact h Iff.rfl)) | fail)
    · have hqc : quoteC c = [92, c] := by unfold quoteC; rw [if_pos (.inl h)]
      refine sw_buildSlice [.int .u8 92, .int .u8 (iv c)] (by omega) rfl fun b7 => ?_
      refine sw_appB (b7 := b7) acc [92, c] _ o ho rfl rfl ⟨by simp only [List.length_cons, List.length_nil]; omega, by simp only [List.length_cons, List.length_nil]; omega⟩ fun o' ho' => ?_
      have hq : (34 :: (s.take (i + 1)).flatMap quoteC : Bs) = acc ++ [92, c] := by rw [htf, ← hacc]; simp [hqc]
      repeat' (first | with_reducible refine sw_in (by omega) ?_ | with_reducible (first | refine go1 ?_ | refine sct ?_ | refine scf ?_ | refine sgr ?_) | fail)
      refine sq_round ⟨(i + 1, o'), by dsimp only; omega, ho'⟩ (by show s.length - (i + 1) < s.length - i; omega) ?_ ?_
      · show says _ [(0, .string (sB s)), (4, .int .i64 ((i + 1 : Nat) : Int)), (3, bufV ((34 :: (s.take (i + 1)).flatMap quoteC : Bs).map iv).length o')]
        rw [hq]
        repeat' (first | exact says_nil | refine says_cons rfl ?_ | refine says_cons (by simp) ?_)
      · show Ent _ (oR (vG .u8 5 ((34 :: (s.take (i + 1)).flatMap quoteC : Bs).map iv)) F o')
        rw [hq]
        repeat' (first | with_reducible exact Ent.refl _ | with_reducible refine Ent.take_eq ?_ ?_ | rfl | with_reducible refine Ent.oR ?_ | with_reducible refine Ent.trans (oR.drop _ _ _) ?_ | with_reducible refine Ent.trans (Ent.drop _ _) ?_)
    · have hqc : quoteC c = [92, c] := by unfold quoteC; rw [if_pos (.inr h)]
      refine sw_buildSlice [.int .u8 92, .int .u8 (iv c)] (by omega) rfl fun b7 => ?_
      refine sw_appB (b7 := b7) acc [92, c] _ o ho rfl rfl ⟨by simp only [List.length_cons, List.length_nil]; omega, by simp only [List.length_cons, List.length_nil]; omega⟩ fun o' ho' => ?_
      have hq : (34 :: (s.take (i + 1)).flatMap quoteC : Bs) = acc ++ [92, c] := by rw [htf, ← hacc]; simp [hqc]
      repeat' (first | with_reducible refine sw_in (by omega) ?_ | with_reducible (first | refine go1 ?_ | refine sct ?_ | refine scf ?_ | refine sgr ?_) | fail)
      refine sq_round ⟨(i + 1, o'), by dsimp only; omega, ho'⟩ (by show s.length - (i + 1) < s.length - i; omega) ?_ ?_
      · show says _ [(0, .string (sB s)), (4, .int .i64 ((i + 1 : Nat) : Int)), (3, bufV ((34 :: (s.take (i + 1)).flatMap quoteC : Bs).map iv).length o')]
        rw [hq]
        repeat' (first | exact says_nil | refine says_cons rfl ?_ | refine says_cons (by simp) ?_)
      · show Ent _ (oR (vG .u8 5 ((34 :: (s.take (i + 1)).flatMap quoteC : Bs).map iv)) F o')
        rw [hq]
        repeat' (first | with_reducible exact Ent.refl _ | with_reducible refine Ent.take_eq ?_ ?_ | rfl | with_reducible refine Ent.oR ?_ | with_reducible refine Ent.trans (oR.drop _ _ _) ?_ | with_reducible refine Ent.trans (Ent.drop _ _) ?_)
    · have hqc : quoteC c = [92, 120, digAt (iv c / 16), digAt (iv c % 16)] := by unfold quoteC; rw [if_neg (by rintro (g | g) <;> contradiction), if_pos (.inl h)]
      have hb := iv_lt c
      have hA : 0 ≤ iv c / 16 ∧ iv c / 16 < (([48, 49, 50, 51, 52, 53, 54, 55, 56, 57, 97, 98, 99, 100, 101, 102] : Bs).length : Int) := by show _ ∧ _ < (16 : Int); omega
      have hB : 0 ≤ iv c % 16 ∧ iv c % 16 < (([48, 49, 50, 51, 52, 53, 54, 55, 56, 57, 97, 98, 99, 100, 101, 102] : Bs).length : Int) := by show _ ∧ _ < (16 : Int); omega
      have hdA := digAt_get (iv c / 16) (by omega)
      have hdB := digAt_get (iv c % 16) (by omega)
      have h4 : [Value.int .u8 92, .int .u8 120, .int .u8 (iv (([48, 49, 50, 51, 52, 53, 54, 55, 56, 57, 97, 98, 99, 100, 101, 102] : Bs).getD (iv c / 16).toNat 0)), .int .u8 (iv (([48, 49, 50, 51, 52, 53, 54, 55, 56, 57, 97, 98, 99, 100, 101, 102] : Bs).getD (iv c % 16).toNat 0))] = (([92, 120, digAt (iv c / 16), digAt (iv c % 16)] : Bs).map iv).map (Value.int .u8) := by rw [hdA, hdB]; rfl
      have h4l : acc.length + ([92, 120, digAt (iv c / 16), digAt (iv c % 16)] : Bs).length ≤ 9223372036854775807 ∧ (acc.length + ([92, 120, digAt (iv c / 16), digAt (iv c % 16)] : Bs).length) * 1 ≤ 140737488355328 := by simp only [List.length_cons, List.length_nil]; omega
      refine sc_lin ([]) (llp 0 (llp 1 (llp 2 (llp 3 (llp 4 (llp 5 (llp 6 (lle 7 (lle 8 (llp 9 ll0)))))))))) (by kernel_rfl) rfl (by kernel_rfl) ?_
      all_goals (iterate 2 refine go1l ?_)
      all_goals refine sl_take (h := runop_quo16 hb) ?_
      all_goals refine sl_take (h := runop_sget hA) ?_
      all_goals refine go1l ?_
      all_goals refine sl_take (h := runop_rem_nn (by omega)) ?_
      all_goals refine sl_take (h := runop_sget hB) ?_
      all_goals refine sl_eff ?_
      all_goals (repeat' (first | with_reducible (first | refine go1 ?_ | refine sct ?_ | refine scf ?_ | refine sgr ?_) | with_reducible refine sw_buildSlice [.int .u8 92, .int .u8 120, .int .u8 (iv (([48, 49, 50, 51, 52, 53, 54, 55, 56, 57, 97, 98, 99, 100, 101, 102] : Bs).getD (iv c / 16).toNat 0)), .int .u8 (iv (([48, 49, 50, 51, 52, 53, 54, 55, 56, 57, 97, 98, 99, 100, 101, 102] : Bs).getD (iv c % 16).toNat 0))] (by omega) rfl fun b7 => ?_ | with_reducible refine sw_appB (b7 := b7) acc [92, 120, digAt (iv c / 16), digAt (iv c % 16)] _ o ho h4 (by simp) h4l fun o' ho' => ?_ | with_reducible refine sl_back ?_ | fail))
      all_goals refine sl_eff ?_
      all_goals (repeat' (first | with_reducible (first | refine go1 ?_ | refine sct ?_ | refine scf ?_ | refine sgr ?_) | with_reducible refine sw_buildSlice [.int .u8 92, .int .u8 120, .int .u8 (iv (([48, 49, 50, 51, 52, 53, 54, 55, 56, 57, 97, 98, 99, 100, 101, 102] : Bs).getD (iv c / 16).toNat 0)), .int .u8 (iv (([48, 49, 50, 51, 52, 53, 54, 55, 56, 57, 97, 98, 99, 100, 101, 102] : Bs).getD (iv c % 16).toNat 0))] (by omega) rfl fun b7 => ?_ | with_reducible refine sw_appB (b7 := b7) acc [92, 120, digAt (iv c / 16), digAt (iv c % 16)] _ o ho h4 (by simp) h4l fun o' ho' => ?_ | with_reducible refine sl_back ?_ | fail))
      all_goals refine go1l ?_
      all_goals refine sl_done ?_
      have hq : (34 :: (s.take (i + 1)).flatMap quoteC : Bs) = acc ++ [92, 120, digAt (iv c / 16), digAt (iv c % 16)] := by rw [htf, ← hacc]; simp [hqc]
      repeat' (first | with_reducible refine sw_in (by omega) ?_ | with_reducible (first | refine go1 ?_ | refine sct ?_ | refine scf ?_ | refine sgr ?_) | fail)
      refine sq_round ⟨(i + 1, o'), by dsimp only; omega, ho'⟩ (by show s.length - (i + 1) < s.length - i; omega) ?_ ?_
      · show says _ [(0, .string (sB s)), (4, .int .i64 ((i + 1 : Nat) : Int)), (3, bufV ((34 :: (s.take (i + 1)).flatMap quoteC : Bs).map iv).length o')]
        rw [hq]
        repeat' (first | exact says_nil | refine says_cons rfl ?_ | refine says_cons (by simp) ?_)
      · show Ent _ (oR (vG .u8 5 ((34 :: (s.take (i + 1)).flatMap quoteC : Bs).map iv)) F o')
        rw [hq]
        repeat' (first | with_reducible exact Ent.refl _ | with_reducible refine Ent.take_eq ?_ ?_ | rfl | with_reducible refine Ent.oR ?_ | with_reducible refine Ent.trans (oR.drop _ _ _) ?_ | with_reducible refine Ent.trans (Ent.drop _ _) ?_)
    · have hqc : quoteC c = [92, 120, digAt (iv c / 16), digAt (iv c % 16)] := by unfold quoteC; rw [if_neg (by rintro (g | g) <;> contradiction), if_pos (.inr h)]
      have hb := iv_lt c
      have hA : 0 ≤ iv c / 16 ∧ iv c / 16 < (([48, 49, 50, 51, 52, 53, 54, 55, 56, 57, 97, 98, 99, 100, 101, 102] : Bs).length : Int) := by show _ ∧ _ < (16 : Int); omega
      have hB : 0 ≤ iv c % 16 ∧ iv c % 16 < (([48, 49, 50, 51, 52, 53, 54, 55, 56, 57, 97, 98, 99, 100, 101, 102] : Bs).length : Int) := by show _ ∧ _ < (16 : Int); omega
      have hdA := digAt_get (iv c / 16) (by omega)
      have hdB := digAt_get (iv c % 16) (by omega)
      have h4 : [Value.int .u8 92, .int .u8 120, .int .u8 (iv (([48, 49, 50, 51, 52, 53, 54, 55, 56, 57, 97, 98, 99, 100, 101, 102] : Bs).getD (iv c / 16).toNat 0)), .int .u8 (iv (([48, 49, 50, 51, 52, 53, 54, 55, 56, 57, 97, 98, 99, 100, 101, 102] : Bs).getD (iv c % 16).toNat 0))] = (([92, 120, digAt (iv c / 16), digAt (iv c % 16)] : Bs).map iv).map (Value.int .u8) := by rw [hdA, hdB]; rfl
      have h4l : acc.length + ([92, 120, digAt (iv c / 16), digAt (iv c % 16)] : Bs).length ≤ 9223372036854775807 ∧ (acc.length + ([92, 120, digAt (iv c / 16), digAt (iv c % 16)] : Bs).length) * 1 ≤ 140737488355328 := by simp only [List.length_cons, List.length_nil]; omega
      refine sc_lin ([]) (llp 0 (llp 1 (llp 2 (llp 3 (llp 4 (llp 5 (llp 6 (lle 7 (lle 8 (llp 9 ll0)))))))))) (by kernel_rfl) rfl (by kernel_rfl) ?_
      all_goals (iterate 2 refine go1l ?_)
      all_goals refine sl_take (h := runop_quo16 hb) ?_
      all_goals refine sl_take (h := runop_sget hA) ?_
      all_goals refine go1l ?_
      all_goals refine sl_take (h := runop_rem_nn (by omega)) ?_
      all_goals refine sl_take (h := runop_sget hB) ?_
      all_goals refine sl_eff ?_
      all_goals (repeat' (first | with_reducible (first | refine go1 ?_ | refine sct ?_ | refine scf ?_ | refine sgr ?_) | with_reducible refine sw_buildSlice [.int .u8 92, .int .u8 120, .int .u8 (iv (([48, 49, 50, 51, 52, 53, 54, 55, 56, 57, 97, 98, 99, 100, 101, 102] : Bs).getD (iv c / 16).toNat 0)), .int .u8 (iv (([48, 49, 50, 51, 52, 53, 54, 55, 56, 57, 97, 98, 99, 100, 101, 102] : Bs).getD (iv c % 16).toNat 0))] (by omega) rfl fun b7 => ?_ | with_reducible refine sw_appB (b7 := b7) acc [92, 120, digAt (iv c / 16), digAt (iv c % 16)] _ o ho h4 (by simp) h4l fun o' ho' => ?_ | with_reducible refine sl_back ?_ | fail))
      all_goals refine sl_eff ?_
      all_goals (repeat' (first | with_reducible (first | refine go1 ?_ | refine sct ?_ | refine scf ?_ | refine sgr ?_) | with_reducible refine sw_buildSlice [.int .u8 92, .int .u8 120, .int .u8 (iv (([48, 49, 50, 51, 52, 53, 54, 55, 56, 57, 97, 98, 99, 100, 101, 102] : Bs).getD (iv c / 16).toNat 0)), .int .u8 (iv (([48, 49, 50, 51, 52, 53, 54, 55, 56, 57, 97, 98, 99, 100, 101, 102] : Bs).getD (iv c % 16).toNat 0))] (by omega) rfl fun b7 => ?_ | with_reducible refine sw_appB (b7 := b7) acc [92, 120, digAt (iv c / 16), digAt (iv c % 16)] _ o ho h4 (by simp) h4l fun o' ho' => ?_ | with_reducible refine sl_back ?_ | fail))
      all_goals refine go1l ?_
      all_goals refine sl_done ?_
      have hq : (34 :: (s.take (i + 1)).flatMap quoteC : Bs) = acc ++ [92, 120, digAt (iv c / 16), digAt (iv c % 16)] := by rw [htf, ← hacc]; simp [hqc]
      repeat' (first | with_reducible refine sw_in (by omega) ?_ | with_reducible (first | refine go1 ?_ | refine sct ?_ | refine scf ?_ | refine sgr ?_) | fail)
      refine sq_round ⟨(i + 1, o'), by dsimp only; omega, ho'⟩ (by show s.length - (i + 1) < s.length - i; omega) ?_ ?_
      · show says _ [(0, .string (sB s)), (4, .int .i64 ((i + 1 : Nat) : Int)), (3, bufV ((34 :: (s.take (i + 1)).flatMap quoteC : Bs).map iv).length o')]
        rw [hq]
        repeat' (first | exact says_nil | refine says_cons rfl ?_ | refine says_cons (by simp) ?_)
      · show Ent _ (oR (vG .u8 5 ((34 :: (s.take (i + 1)).flatMap quoteC : Bs).map iv)) F o')
        rw [hq]
        repeat' (first | with_reducible exact Ent.refl _ | with_reducible refine Ent.take_eq ?_ ?_ | rfl | with_reducible refine Ent.oR ?_ | with_reducible refine Ent.trans (oR.drop _ _ _) ?_ | with_reducible refine Ent.trans (Ent.drop _ _) ?_)
    · have hqc : quoteC c = [c] := by unfold quoteC; rw [if_neg (by rintro (g | g) <;> contradiction), if_neg (by rintro (g | g) <;> contradiction)]
      refine sw_build1 fun b7 => ?_
      refine sw_appB (b7 := b7) acc [c] _ o ho rfl rfl ⟨by simp only [List.length_cons, List.length_nil]; omega, by simp only [List.length_cons, List.length_nil]; omega⟩ fun o' ho' => ?_
      have hq : (34 :: (s.take (i + 1)).flatMap quoteC : Bs) = acc ++ [c] := by rw [htf, ← hacc]; simp [hqc]
      repeat' (first | with_reducible refine sw_in (by omega) ?_ | with_reducible (first | refine go1 ?_ | refine sct ?_ | refine scf ?_ | refine sgr ?_) | fail)
      refine sq_round ⟨(i + 1, o'), by dsimp only; omega, ho'⟩ (by show s.length - (i + 1) < s.length - i; omega) ?_ ?_
      · show says _ [(0, .string (sB s)), (4, .int .i64 ((i + 1 : Nat) : Int)), (3, bufV ((34 :: (s.take (i + 1)).flatMap quoteC : Bs).map iv).length o')]
        rw [hq]
        repeat' (first | exact says_nil | refine says_cons rfl ?_ | refine says_cons (by simp) ?_)
      · show Ent _ (oR (vG .u8 5 ((34 :: (s.take (i + 1)).flatMap quoteC : Bs).map iv)) F o')
        rw [hq]
        repeat' (first | with_reducible exact Ent.refl _ | with_reducible refine Ent.take_eq ?_ ?_ | rfl | with_reducible refine Ent.oR ?_ | with_reducible refine Ent.trans (oR.drop _ _ _) ?_ | with_reducible refine Ent.trans (Ent.drop _ _) ?_)
  · have hie : i = s.length := by omega
    subst hie
    rw [List.take_length] at hql ⊢
    obtain ⟨acc, hacc⟩ : ∃ acc : Bs, (34 :: s.flatMap quoteC : Bs) = acc := ⟨_, rfl⟩
    have hacl : acc.length ≤ 4194305 := by rw [← hacc, List.length_cons]; omega
    rw [hacc]
    repeat' (first | with_reducible (first | refine go1 ?_ | refine sct ?_ | refine scf ?_ | refine sgr ?_) | with_reducible refine sw_build1 fun b7 => ?_ | (with_reducible refine sc_cond (fun h => ?_) (fun h => ?_)) <;> (try (exfalso; first | contradiction | omega | exact h Iff.rfl)) | fail)
    refine sw_appB (b7 := b7) acc [34] _ o ho rfl rfl ⟨by simp only [List.length_cons, List.length_nil]; omega, by simp only [List.length_cons, List.length_nil]; omega⟩ fun o' ho' => ?_
    refine sw_bytesV (el' := 5) (acc ++ [34]) o' (fun h => absurd h ho') ?_
    repeat' (first | with_reducible (first | refine go1 ?_ | refine sct ?_ | refine scf ?_ | refine sgr ?_) | fail)
    refine sq_ret1 Tryd.results14 ?_
    refine ⟨_, ⟨by rw [← hacc]; rfl, rfl⟩, ?_⟩
    repeat' (first | with_reducible exact Ent.refl _ | with_reducible refine Ent.take_eq ?_ ?_ | rfl | with_reducible refine Ent.oR ?_ | with_reducible refine Ent.trans (oR.drop _ _ _) ?_ | with_reducible refine Ent.trans (Ent.drop _ _) ?_)
end Go.Gsl

namespace Go.Gsl
set_option linter.unusedVariables false
open Go.Proofs Go.Shelf

shelf_lay Lays.n156 Nm 156 at Tryd as Tryd.laysJoin

theorem joinX : Builder.Extra Tryd.prog Tryd.laysJoin_ren where
  sizeBuilder := by kernel_rfl
  liesBuilder := by kernel_rfl
  t5 := Tryd.underlying5
  a5 := Tryd.isAgg5
  z5 := Tryd.sizeOf5
  v5 := Tryd.zeroValue5
  infoByte := by kernel_rfl
  cellsByte := by kernel_rfl
  sizeByte := by kernel_rfl
  neB5 := by decide

/-- texts in a row that came in -/
structure TxtAt (W : World) (a : Option Addr) (xs : List Bs) (c : Nat) : Prop where
  cap : xs.length ≤ c
  row : 0 < xs.length → ∃ b o, a = some ⟨b, o, none⟩ ∧ ∀ j x, xs[j]? = some x → W.cell? ⟨b, o + j, none⟩ = some (.string (sB x))
theorem join_ok (W : World) (a : Option Addr) (xs : List Bs) (c : Nat) (h : TxtAt W a xs c) (hl : (Lib.join xs [32]).length ≤ 281474976710656) (hn : xs.length ≤ 1048576) : Spec Tryd.prog 16 [.slice a xs.length c, .string (sB [32])] [0] [ro W]
    fun F v Rs' => v = .string (sB (Lib.join xs [32])) ∧ Rs' = (0, ro W) :: F := by
  intro w0 F w hw
  have hw' : Sat w0 w ((0, ro W) :: F) := hw
  cases xs with
  | nil =>
    refine Calls.mono (Any.strings_Join_none Tryd.laysJoin joinX a c (sB [32]) w) ?_
    rintro e w' ⟨rfl, rfl⟩
    exact ⟨_, _, rfl, ⟨rfl, rfl⟩, hw'⟩
  | cons x0 xs =>
    obtain ⟨b, o, rfl, hc⟩ := h.row (by simp)
    have hmap : ((x0 :: xs).map sB).map (fun s : ByteArray => s.data.toList) = x0 :: xs := by
      rw [List.map_map]
      conv => rhs; rw [← List.map_id (x0 :: xs)]
      apply List.map_congr_left
      intro s _
      simp
    have hcw : ∀ (j : Nat) y, ((x0 :: xs).map sB)[j]? = some y → w.cell? ⟨b, o + j, none⟩ = some (.string y) := by
      intro j y hy
      rw [List.getElem?_map] at hy
      obtain ⟨z, hz, rfl⟩ := Option.map_eq_some_iff.1 hy
      exact ro_cell (W := W) (F := F) (hc j z hz) w hw'
    have hbw : b < w.heap.size := lt_of_cell (hcw 0 (sB x0) rfl)
    have hj : (Lib.join (((x0 :: xs).map sB).map (·.data.toList)) (sB [32]).data.toList) = Lib.join (x0 :: xs) [32] := by rw [hmap]
    have := Any.strings_Join_48 Tryd.laysJoin joinX b o c ((x0 :: xs).map sB) (sB [32]) w hcw hbw (by rw [List.length_map]; omega) (by rw [List.length_map]; exact h.cap) (by rw [hj]; exact hl)
    rw [hj, List.length_map] at this
    refine Calls.mono this ?_
    rintro e w' ⟨rfl, hb⟩
    exact ⟨_, _, rfl, ⟨rfl, rfl⟩, hw'.below hb⟩
theorem sJoin_ok (W : World) (a : Option Addr) (xs : List Bs) (c : Nat) (h : TxtAt W a xs c) (hl : (Lib.join xs [32]).length ≤ 281474976710656) (hn : xs.length ≤ 1048576) : Spec Tryd.prog 15 [.slice a xs.length c] [0] [ro W]
    fun F v Rs' => v = .string (sB (Lib.join xs [32])) ∧ Rs' = (0, ro W) :: F := by
  refine spec_of Tryd.func15 rfl Tryd.ntmps15 rfl ?_
  intro w0 F
  repeat' (first | with_reducible (first | refine go1 ?_ | refine sct ?_ | refine scf ?_ | refine sgr ?_) | ((with_reducible refine sw_callf (join_ok W a xs c h hl hn) ?_); rintro _ _ ⟨rfl, rfl⟩) | fail)
  refine sq_ret1 Tryd.results15 ?_
  exact ⟨_, ⟨rfl, rfl⟩, Ent.refl _⟩

set_option maxHeartbeats 1000000 in
theorem l26Words_ok (W : World) (hT : Tabs Tryd.prog W) (a : Option Addr) (xs : List Bs) (c : Nat) (ht : TxtAt W a xs c) (hl : (Lib.join xs [32]).length ≤ 281474976710656) (hn : xs.length ≤ 1048576) (hx : ∀ x ∈ xs, x.length ≤ 1048576) : Spec Tryd.prog 4 [.slice a xs.length c] [0] [ro W]
    fun F v Rs' => v = .bool true ∧ Rs' = (0, ro W) :: F := by
  refine spec_of Tryd.func4 rfl Tryd.ntmps4 rfl ?_
  intro w0 F
  repeat' (first | with_reducible (first | refine go1 ?_ | refine sct ?_ | refine scf ?_ | refine sgr ?_) | fail)
  refine sc_loop (α := { i : Nat // i ≤ xs.length }) (fun i => [(0, .slice a xs.length c), (5, .slice a xs.length c), (6, .int .i64 (xs.length : Int)), (7, .int .i64 (i.1 : Int))]) (fun _ => (0, ro W) :: F) (fun i => xs.length - i.1) ⟨0, Nat.zero_le _⟩ ?_ ?_ ?_
  · repeat' (first | exact says_nil | refine says_cons rfl ?_ | refine says_cons (by simp) ?_)
  · exact Ent.refl _
  rintro ⟨i, hi⟩ e
  simp only [List.cons_append, List.nil_append]
  have hj1 := sJoin_ok W a xs c ht hl hn
  have hj2 := join_ok W a xs c ht hl hn
  repeat' (first | with_reducible refine sw_in (by omega) ?_ | with_reducible (first | refine go1 ?_ | refine sct ?_ | refine scf ?_ | refine sgr ?_) | ((with_reducible refine sw_callf (begun_ok W hT) ?_); rintro _ _ ⟨rfl, rfl⟩) | ((with_reducible refine sw_callf hj1 ?_); rintro _ _ ⟨rfl, rfl⟩) | ((with_reducible refine sw_callf hj2 ?_); rintro _ _ ⟨rfl, rfl⟩) | (with_reducible refine sc_cond (fun h => ?_) (fun h => ?_)) <;> (try (exfalso; first | contradiction | omega | exact h Iff.rfl)) | fail)
  · have hi2 : i < xs.length := by omega
    obtain ⟨b, o, rfl, hcell⟩ := ht.row (by omega)
    have hxi := hx xs[i] (List.getElem_mem hi2)
    have hci : W.cell? ⟨b, o + i * 1, none⟩ = some (.string (sB xs[i])) := by rw [Nat.mul_one]; exact hcell i _ (List.getElem?_eq_getElem hi2)
    generalize xs[i] = y at hxi hci
    repeat' (first | with_reducible refine sw_in (by omega) ?_ | with_reducible (first | refine go1 ?_ | refine sct ?_ | refine scf ?_ | refine sgr ?_) | with_reducible refine sw_indexN i ⟨rfl, hi2⟩ ?_ | with_reducible refine sw_load_ro (W := W) hci ?_ | ((with_reducible refine sw_callf (sQuote_ok y hxi) ?_); rintro _ _ ⟨rfl, rfl⟩) | ((with_reducible refine sw_callf (qQuote_ok y hxi) ?_); rintro _ _ ⟨rfl, rfl⟩) | (with_reducible refine sc_cond (fun h => ?_) (fun h => ?_)) <;> (try (exfalso; first | contradiction | omega | exact h Iff.rfl)) | fail)
    refine sq_round ⟨i + 1, hi2⟩ (by show xs.length - (i + 1) < xs.length - i; omega) ?_ ?_
    · repeat' (first | exact says_nil | refine says_cons rfl ?_ | refine says_cons (by simp) ?_)
    · exact Ent.refl _
  · refine sq_ret1 Tryd.results4 ?_
    exact ⟨_, ⟨by rw [decide_eq_true rfl], rfl⟩, Ent.refl _⟩
end Go.Gsl

namespace Go.Gsl
set_option linter.unusedVariables false
open Go.Proofs Go.RowKit Go.ChangeShapes Go.WideShapes

theorem l26gPow : Tryd.prog.globalNamed "internal/strconv.uint64pow10" = some 3 := by kernel_rfl
theorem l26gSyn : Tryd.prog.globalNamed "strconv.ErrSyntax" = some 4 := by kernel_rfl
theorem l26gRng : Tryd.prog.globalNamed "strconv.ErrRange" = some 5 := by kernel_rfl
theorem l26tPow : (Tryd.prog.globals[3]?).map (·.type) = some 154 := by kernel_rfl
theorem l26tSyn : (Tryd.prog.globals[4]?).map (·.type) = some 76 := by kernel_rfl
theorem l26tRng : (Tryd.prog.globals[5]?).map (·.type) = some 76 := by kernel_rfl
theorem l26star : "*" ++ "errors.errorString" = "*errors.errorString" := by decide
theorem l26row (u : TypeId) (h : Tryd.prog.typeName? 3 u = some "*errors.errorString") : u = 166 :=
  typeName_ptr_named (nm := "errors.errorString") (by rw [l26star]; kernel_rfl) (by kernel_rfl) (by decide) u (by rw [l26star]; exact h)

/-- what the rows list -/
def laidL : List (String × DataW Unit) := YtjfieigjicbldaaDoor.Rows.scriptWordsUptoRow.laid
theorem laid_tabs {W : World} (h : laidMetH Tryd.prog laidL W) : Tabs Tryd.prog W := by
  have h0 : laidMet Tryd.prog laidL W := h
  have h2 := h0.tail.tail
  have h4 := h2.tail.tail
  have h5 := h4.tail
  refine ⟨Lib.tabIs_of_head (rest := _) l26gPow l26tPow Tryd.underlying154 Tryd.underlying114 (by kernel_rfl) (by kernel_rfl) h2, ?_, ?_⟩
  · obtain ⟨a, s, hv, _⟩ := laid_sentinel h5 l26gSyn l26tSyn Tryd.underlying76 l26row Tryd.underlying166 Tryd.underlying168 rfl rfl Tryd.underlying9 (by kernel_rfl) (by kernel_rfl)
    exact ⟨_, _, hv⟩
  · obtain ⟨a, s, hv, _⟩ := laid_sentinel h4 l26gRng l26tRng Tryd.underlying76 l26row Tryd.underlying166 Tryd.underlying168 rfl rfl Tryd.underlying9 (by kernel_rfl) (by kernel_rfl)
    exact ⟨_, _, hv⟩

/-- the cells of a listed table -/
def litCells : DataW Unit → List Value
  | .agg l => l.flatMap fun
    | .lit (.int k z) => [.int k z]
    | .agg m => m.flatMap fun
      | .lit (.int k z) => [.int k z]
      | _ => []
    | _ => []
  | _ => []
def litText : DataW Unit → List UInt8
  | .iface _ (.ptr (.agg [.lit (.string s)])) => s
  | _ => []

/-- a world that holds what the rows list -/
noncomputable def laidWorld (os : Os) : World :=
  let w0 := World.holding Tryd.prog os ⟨#[], #[], []⟩
  let put (h : Array Obj) (g : Nat) (cs : Array Value) : Array Obj := h.modify g fun
    | .cells _ t frozen => .cells cs t frozen
    | o => o
  let n := w0.heap.size
  let h1 := put w0.heap 6 (litCells YtjfieigjicbldaaDoor.Rows.laid_math_bits_deBruijn32tab).toArray
  let h2 := put h1 7 (litCells YtjfieigjicbldaaDoor.Rows.laid_math_bits_deBruijn64tab).toArray
  let h3 := put h2 3 (litCells YtjfieigjicbldaaDoor.Rows.laid_internal_strconv_uint64pow10).toArray
  let h4 := put h3 2 (litCells YtjfieigjicbldaaDoor.Rows.laid_unicode_utf8_acceptRanges).toArray
  let h5 := put h4 1 (litCells YtjfieigjicbldaaDoor.Rows.laid_unicode_utf8_first).toArray
  let h6 := put h5 5 #[.iface 166 (.pointer (some ⟨n, 0, none⟩))]
  let h7 := put h6 4 #[.iface 166 (.pointer (some ⟨n + 1, 0, none⟩))]
  { w0 with heap := (h7.push (.cells #[.string (sB (litText YtjfieigjicbldaaDoor.Rows.laid_strconv_ErrRange))] 168 (0, 0))).push (.cells #[.string (sB (litText YtjfieigjicbldaaDoor.Rows.laid_strconv_ErrSyntax))] 168 (0, 0)) }
theorem laid_met (os : Os) (args : Array Value) : laidMet Tryd.prog laidL ((laidWorld os).forCall (fun _ _ => 0) ⟨#[], args, []⟩).memory :=
  laidMet_of_run' 8 (by kernel_rfl) (by kernel_rfl)
theorem laid_vars (os : Os) (args : Array Value) : ((laidWorld os).forCall (fun _ _ => 0) ⟨#[], args, []⟩).variablesRefB Tryd.prog = true := by kernel_rfl
theorem laid_rest (os : Os) (args : Array Value) : ((((laidWorld os).forCall (fun _ _ => 0) ⟨#[], args, []⟩).heap.toList.drop Tryd.prog.globals.size).take ((begin Tryd.prog (fun _ _ => 0) default).world.heap.size - Tryd.prog.globals.size) =
      (begin Tryd.prog (fun _ _ => 0) default).world.heap.toList.drop Tryd.prog.globals.size) := by kernel_rfl
end Go.Gsl

namespace Go.Gsl
set_option linter.unusedVariables false
open Go.Proofs Go.RowKit Go.ChangeShapes Go.WideShapes
section
variable {H : Type} {enc : TypeId × Value → H} {W : World} {base : Nat} {fuel : Nat}
theorem bulk_range {H : Type} (D : Nat → DataW H) (g : Nat → Bs) : ∀ n, (∀ i, i < n → D i = .lit (.string (g i))) → YtjfieigjicbldaaDoor.Rows.uptoBulkAll ((List.range n).map D) = (((List.range n).map g).map fun s => s.length + 1).sum
  | 0, _ => by simp [YtjfieigjicbldaaDoor.Rows.uptoBulkAll]
  | n + 1, h => by
    have app : ∀ (l r : List (DataW H)), YtjfieigjicbldaaDoor.Rows.uptoBulkAll (l ++ r) = YtjfieigjicbldaaDoor.Rows.uptoBulkAll l + YtjfieigjicbldaaDoor.Rows.uptoBulkAll r := by
      intro l r
      induction l with
      | nil => simp [YtjfieigjicbldaaDoor.Rows.uptoBulkAll]
      | cons x l ih => simp only [List.cons_append, YtjfieigjicbldaaDoor.Rows.uptoBulkAll, ih]; omega
    rw [List.range_succ, List.map_append, app, bulk_range D g n (fun i hi => h i (by omega))]
    simp [YtjfieigjicbldaaDoor.Rows.uptoBulkAll, YtjfieigjicbldaaDoor.Rows.uptoBulk, h n (by omega)]
theorem join_le (sep : UInt8) : ∀ xs : List Bs, (Lib.join xs [sep]).length ≤ (xs.map fun s => s.length + 1).sum
  | [] => by simp [Lib.join]
  | [x] => by rw [Lib.join_one]; simp
  | x :: y :: r => by
    have ih := join_le sep (y :: r)
    have e : Lib.join (x :: y :: r) [sep] = x ++ [sep] ++ Lib.join (y :: r) [sep] := by simp [Lib.join, List.intercalate]
    rw [e]
    simp only [List.length_append, List.length_cons, List.length_nil, List.map_cons, List.sum_cons] at ih ⊢
    omega
theorem sum_part : ∀ (xs : List Bs) (x : Bs), x ∈ xs → x.length ≤ (xs.map fun s => s.length + 1).sum
  | y :: r, x, h => by
    simp only [List.map_cons, List.sum_cons]
    rcases List.mem_cons.1 h with rfl | h
    · omega
    · have := sum_part r x h; omega
theorem sum_len : ∀ xs : List Bs, xs.length ≤ (xs.map fun s => s.length + 1).sum
  | [] => by simp
  | y :: r => by have := sum_len r; simp only [List.map_cons, List.sum_cons, List.length_cons]; omega
set_option maxRecDepth 100000 in
theorem read_texts {v : Value} {d : DataW H} {p : List MemPlace} (ho : Value.okWide Tryd.prog W .any base 33 v) (h : DataW.Trod enc Tryd.prog W 0 (fun _ => true) true 33 v d p) :
    ∃ (a : Option Addr) (xs : List Bs) (c : Nat), v = .slice a xs.length c ∧ TxtAt W a xs c ∧ (xs.map fun s => s.length + 1).sum ≤ YtjfieigjicbldaaDoor.Rows.uptoBulk d := by
  obtain ⟨a0, len, cap, rfl⟩ := okWide_slice Tryd.underlying33 ho
  obtain ⟨fuel, hf⟩ := h
  have hcs : Tryd.prog.cellsOf 9 = 1 := by kernel_rfl
  rcases Deep.open_slice Tryd.underlying33 hf with ⟨hcs, _⟩ | ⟨a, len', cap', m, n, D, Pl, hcs', _, hl, hm, hme, hx, hel⟩
  · simp [Value.cells] at hcs
    obtain ⟨rfl, rfl, rfl⟩ := hcs
    exact ⟨none, [], 0, rfl, ⟨by simp, fun h => by simp at h⟩, by simp⟩
  · simp [Value.cells] at hcs'
    obtain ⟨rfl, rfl, rfl⟩ := hcs'
    simp only [if_true] at hme
    rw [hcs] at hel
    have hch : ∀ i, i < len → ∃ s : Bs, CellsAt W (a.add (i * 1)) [.string (sB s)] ∧ D i = .lit (.string s) := by
      intro i hi
      obtain ⟨es, hes, ht⟩ := hel i (by omega)
      obtain ⟨h1, h2⟩ := cells_at hes
      obtain ⟨s, rfl, hs, _⟩ := DataW.trod_string Tryd.underlying9 ht
      simp only [Prod.mk.injEq] at hs
      refine ⟨s.data.toList, ?_, hs.1⟩
      rw [show sB s.data.toList = s from by simp [sB]]
      exact h2
    obtain ⟨g, hg⟩ := Deep.choose_lt hch
    simp only [Prod.mk.injEq] at hx
    refine ⟨some a, (List.range len).map g, cap, by simp, ⟨by simpa using hl, fun hp => ?_⟩, ?_⟩
    · have hp' : 0 < len := by simpa using hp
      have h0 := cells_plain (m := 0) rfl (hg 0 hp').1
      have ha : a = ⟨a.block, a.off, none⟩ := by
        simp [Addr.add] at h0
        exact h0
      refine ⟨a.block, a.off, by rw [← ha], fun j x hj => ?_⟩
      obtain ⟨hlt, hjx⟩ := List.getElem?_eq_some_iff.1 hj
      have hlt' : j < len := by simpa using hlt
      simp at hjx
      subst hjx
      have := (hg j hlt').1 0 _ rfl
      rw [ha, Nat.mul_one, add_plain, add_plain] at this
      exact this
    · rw [hx.1, ← bulk_range D g len (fun i hi => (hg i hi).2)]
      simp only [YtjfieigjicbldaaDoor.Rows.uptoBulk]
      omega
end
end Go.Gsl
