/- Masters: what they may be, their bytes. -/
import Derived.Test.YtbmdaiopnnmamaaGC
import Derived.Test.YtbmdaiopnnmamaaGB
import Derived.Test.YtbmdaiopnnmamaaGE
namespace Go.Gsl
set_option linter.unusedVariables false
open Go.Proofs

/-- a master -/
structure Ms where
  seq : Int
  area : Int
  chunks : Int
  ts : Int
  sector : Int
  offset : Int
  number : Int
  run : Int
def I64 (x : Int) : Prop := -9223372036854775808 ≤ x ∧ x ≤ 9223372036854775807
def Ms.l (m : Ms) : List Int := [m.seq, m.area, m.chunks, m.ts, m.sector, m.offset, m.number, m.run]
abbrev Ms.cs (m : Ms) : List Value := [.int .i64 m.seq, .int .i64 m.area, .int .i64 m.chunks, .int .i64 m.ts, .int .i64 m.sector, .int .i64 m.offset, .int .i64 m.number, .int .i64 m.run]
def Ms.zero : Ms := ⟨0, 0, 0, 0, 0, 0, 0, 0⟩
def Ms.In (m : Ms) : Prop := ∀ x ∈ m.l, I64 x
def Stamp (x least : Int) : Prop := least ≤ x ∧ x ≤ 1099511627776
instance (x l : Int) : Decidable (Stamp x l) := inferInstanceAs (Decidable (_ ∧ _))
def Ms.Ok (m : Ms) : Prop := Stamp m.seq 1 ∧ (m.area = 0 ∨ m.area = 1) ∧ (1 ≤ m.chunks ∧ m.chunks ≤ 4096) ∧ Stamp m.ts 0 ∧ Stamp m.sector 0 ∧ (0 ≤ m.offset ∧ m.offset < 512) ∧ Stamp m.number 0 ∧ Stamp m.run 0
instance (m : Ms) : Decidable m.Ok := inferInstanceAs (Decidable (_ ∧ _))
def Ms.chk (m : Ms) : Int := if m.Ok then 0 else 32

theorem rcStamp_ok (x l : Int) : Spec Try.prog 157 [.int .i64 x, .int .i64 l] [] [] fun F v Rs' => v = .bool (decide (Stamp x l)) ∧ Rs' = F := by
  refine spec_of Try.func157 rfl Try.ntmps157 rfl ?_
  intro w0 F
  repeat' (first | with_reducible (first | refine go1 ?_ | refine sct ?_ | refine scf ?_ | refine sgr ?_) | (with_reducible refine sc_cond (fun h => ?_) (fun h => ?_)) <;> (try (exfalso; first | contradiction | omega | exact h Iff.rfl)) | (with_reducible refine sw_guard_split (fun h => ?_) (fun h => ?_)) <;> (try (exfalso; first | contradiction | omega | exact h Iff.rfl)) | (with_reducible refine sw_pick (fun h => ?_) (fun h => ?_)) <;> (try (exfalso; first | contradiction | omega | exact h Iff.rfl)) | fail)
  · refine sq_ret1 Try.results157 ?_
    exact ⟨_, ⟨by congr 1; simp [Stamp, h], rfl⟩, Ent.refl _⟩
  · refine sq_ret1 Try.results157 ?_
    exact ⟨_, ⟨by congr 1; simp [Stamp, h], rfl⟩, Ent.refl _⟩
theorem rcField_ok (b : Bool) : Spec Try.prog 156 [.bool b] [] [] fun F v Rs' => v = .int .i64 (if b then 0 else 32) ∧ Rs' = F := by
  refine spec_of Try.func156 rfl Try.ntmps156 rfl ?_
  intro w0 F
  repeat' (first | with_reducible (first | refine go1 ?_ | refine sct ?_ | refine scf ?_ | refine sgr ?_) | (with_reducible refine sc_cond (fun h => ?_) (fun h => ?_)) <;> (try (exfalso; first | contradiction | omega | exact h Iff.rfl)) | fail)
  · refine sq_ret1 Try.results156 ?_
    exact ⟨_, ⟨by rw [if_pos h], rfl⟩, Ent.refl _⟩
  · refine sq_ret1 Try.results156 ?_
    exact ⟨_, ⟨by rw [if_neg h], rfl⟩, Ent.refl _⟩

set_option maxHeartbeats 1000000 in
theorem rcCheckMaster_ok (m : Ms) : Spec Try.prog 155 [.agg m.cs.toArray] [] [] fun F v Rs' => v = .int .i64 m.chk ∧ Rs' = F := by
  refine spec_of Try.func155 rfl Try.ntmps155 rfl ?_
  intro w0 F
  repeat' (first | with_reducible (first | refine go1 ?_ | refine sct ?_ | refine scf ?_ | refine sgr ?_) | fail)
  refine sw_box fun b1 => ?_
  repeat' (first | with_reducible (first | refine go1 ?_ | refine sct ?_ | refine scf ?_ | refine sgr ?_) | fail)
  refine sw_loadPart [.int .i64 m.sector, .int .i64 m.offset, .int .i64 m.number, .int .i64 m.run] rfl rfl ?_
  refine sw_alloc fun b2 => ?_
  refine sw_store_agg ?_
  repeat' (first | with_reducible (first | refine go1 ?_ | refine sct ?_ | refine scf ?_ | refine sgr ?_) | with_reducible refine sw_guard_skip_u ?_ | ((with_reducible refine sw_call (rcStamp_ok _ _) ?_); rintro _ _ ⟨rfl, rfl⟩) | ((with_reducible refine sw_call (rcField_ok _) ?_); rintro _ _ ⟨rfl, rfl⟩) | (with_reducible refine sw_guard_split (fun h => ?_) (fun h => ?_)) <;> (try (exfalso; first | contradiction | omega | exact h Iff.rfl)) | (with_reducible refine sc_cond (fun h => ?_) (fun h => ?_)) <;> (try (exfalso; first | contradiction | omega | exact h Iff.rfl)) | (with_reducible refine sw_pick (fun h => ?_) (fun h => ?_)) <;> (try (exfalso; first | contradiction | omega | exact h Iff.rfl)) | fail)
  all_goals refine sq_ret1 Try.results155 ?_
  all_goals refine ⟨_, ⟨?_, rfl⟩, (Ent.drop _ _).trans (Ent.drop _ _)⟩
  all_goals
    congr 1
    unfold Ms.chk Ms.Ok
    first
    | (simp only [*, true_or, or_true, and_true, true_and, decide_eq_true_eq]; done)
    | (simp [*]; done)

instance : Meth Try.prog 135 "cresset/record.check" 153 := Meth.of Try.underlying135 (by kernel_rfl)
instance : Meth Try.prog 135 "cresset/record.put" 154 := Meth.of Try.underlying135 (by kernel_rfl)

theorem rcCheck_ok (m : Ms) : Spec Try.prog 153 [.agg m.cs.toArray] [] [] fun F v Rs' => v = .int .i64 m.chk ∧ Rs' = F := by
  refine spec_of Try.func153 rfl Try.ntmps153 rfl ?_
  intro w0 F
  repeat' (first | with_reducible (first | refine go1 ?_ | refine sct ?_ | refine scf ?_ | refine sgr ?_) | fail)
  refine sw_box fun b1 => ?_
  repeat' (first | with_reducible (first | refine go1 ?_ | refine sct ?_ | refine scf ?_ | refine sgr ?_) | ((with_reducible refine sw_call (rcCheckMaster_ok m) ?_); rintro _ _ ⟨rfl, rfl⟩) | fail)
  refine sq_ret1 Try.results153 ?_
  exact ⟨_, ⟨rfl, rfl⟩, Ent.drop _ _⟩

/-- a list's ints, one behind the other -/
def intsB (l : List Int) : List Int := l.flatMap intB
theorem intsB_byt (l : List Int) : Byt (intsB l) := fun x hx => by
  obtain ⟨y, _, hy⟩ := List.mem_flatMap.1 hx
  exact intB_byt y x hy
theorem intsB_len (l : List Int) : (intsB l).length ≤ 9 * l.length := by
  induction l with
  | nil => simp [intsB]
  | cons a l ih =>
    have h1 := intB_len a
    have h2 := width_in a
    have h3 : intsB (a :: l) = intB a ++ intsB l := rfl
    rw [h3, List.length_append, List.length_cons]
    omega
theorem intsB_snoc (l : List Int) (a : Int) : intsB (l ++ [a]) = intsB l ++ intB a := by unfold intsB; simp

def Ms.b (m : Ms) : List Int := intsB m.l

end Go.Gsl

namespace Go.Gsl
set_option linter.unusedVariables false
open Go.Proofs

/-- a row being written, or none yet -/
def bufV (n : Nat) : Option (Nat × List Value) → Value
  | none => .slice none 0 0
  | some (b, t) => .slice (some ⟨b, 0, none⟩) n (n + t.length)
def bufR (t8 : TypeId) (bs : List Int) (F : List Res) : Option (Nat × List Value) → List Res
  | none => F
  | some (b, t) => (b, pts b (.cells (bs.map (Value.int .u8) ++ t).toArray t8 (0, 0))) :: F

set_option maxHeartbeats 1000000 in
theorem rcPut_ok (k : Nat) (r : HProp) (m : Ms) (hm : m.In) : Spec Try.prog 154 [.agg m.cs.toArray, .slice none 0 0] [k] [r]
    fun F w Rs' => ∃ b t, w = .slice (some ⟨b, 0, none⟩) m.b.length (m.b.length + t.length) ∧ Rs' = (b, pts b (.cells (m.b.map (Value.int .u8) ++ t).toArray 5 (0, 0))) :: (k, r) :: F := by
  refine spec_of Try.func154 rfl Try.ntmps154 rfl ?_
  intro w0 F
  repeat' (first | with_reducible (first | refine go1 ?_ | refine sct ?_ | refine scf ?_ | refine sgr ?_) | fail)
  refine sw_box fun b1 => ?_
  repeat' (first | with_reducible (first | refine go1 ?_ | refine sct ?_ | refine scf ?_ | refine sgr ?_) | fail)
  refine sw_buildA m.cs (by kernel_rfl) ?_
  repeat' (first | with_reducible (first | refine go1 ?_ | refine sct ?_ | refine scf ?_ | refine sgr ?_) | fail)
  refine sc_loop (α := { x : Nat × Option (Nat × List Value) // x.1 ≤ 8 ∧ (x.2 = none → x.1 = 0) }) (fun x => [(1, bufV (intsB (m.l.take x.1.1)).length x.1.2), (35, .agg m.cs.toArray), (36, .int .i64 (x.1.1 : Int))])
    (fun x => bufR 5 (intsB (m.l.take x.1.1)) ((k, r) :: F) x.1.2) (fun x => 8 - x.1.1) ⟨(0, none), Nat.zero_le _, fun _ => rfl⟩ ?_ ?_ ?_
  · repeat' (first | exact says_nil | refine says_cons rfl ?_ | refine says_cons (by simp) ?_)
  · show Ent _ ((k, r) :: F)
    repeat' (first | with_reducible exact Ent.refl _ | with_reducible refine Ent.take_eq ?_ ?_ | rfl | with_reducible refine Ent.trans (Ent.drop _ _) ?_)
  rintro ⟨⟨i, o⟩, hi, hn⟩ e
  (try simp only at hi hn)
  simp only [List.cons_append, List.nil_append]
  have hml : m.l.length = 8 := rfl
  have hlen := intsB_len (m.l.take i)
  rw [List.length_take, hml] at hlen
  repeat' (first | with_reducible refine sw_in (by omega) ?_ | with_reducible (first | refine go1 ?_ | refine sct ?_ | refine scf ?_ | refine sgr ?_) | (with_reducible refine sc_cond (fun h => ?_) (fun h => ?_)) <;> (try (exfalso; first | contradiction | omega | exact h Iff.rfl)) | fail)
  · have hi2 : i < m.l.length := by omega
    have hri : m.l[i]? = some m.l[i] := List.getElem?_eq_getElem hi2
    have hx := hm m.l[i] (List.getElem_mem hi2)
    have hsn : intsB (m.l.take (i + 1)) = intsB (m.l.take i) ++ intB m.l[i] := by rw [List.take_add_one, hri, Option.toList_some, intsB_snoc]
    refine sw_indexV i (.int .i64 m.l[i]) ⟨rfl, by omega⟩ (by show (m.l.map (Value.int .i64))[i]? = _; rw [List.getElem?_map, hri]; rfl) ?_
    generalize m.l[i] = x at *
    rcases o with _ | ⟨b, t⟩
    · have h0 := hn rfl
      subst h0
      simp only [bufV, bufR]
      repeat' (first | with_reducible (first | refine go1 ?_ | refine sct ?_ | refine scf ?_ | refine sgr ?_) | fail)
      refine sw_call (cPutInt_ok k r (.slice none 0 0) [] x .nil (by simp) hx) ?_
      rintro _ _ ⟨b2, t2, rfl, rfl⟩
      repeat' (first | with_reducible refine sw_in (by omega) ?_ | with_reducible (first | refine go1 ?_ | refine sct ?_ | refine scf ?_ | refine sgr ?_) | fail)
      refine sq_round ⟨(1, some (b2, t2)), by omega, fun h => by cases h⟩ ?_ ?_ ?_
      · show 8 - 1 < 8 - 0
        omega
      · dsimp only [bufV]
        rw [hsn]
        repeat' (first | exact says_nil | refine says_cons rfl ?_ | refine says_cons (by simp) ?_)
      · show Ent _ ((b2, pts b2 (.cells ((intsB (m.l.take (0 + 1))).map (Value.int .u8) ++ t2).toArray 5 (0, 0))) :: (k, r) :: F)
        rw [hsn]
        exact Ent.refl _
    · simp only [bufV, bufR]
      repeat' (first | with_reducible (first | refine go1 ?_ | refine sct ?_ | refine scf ?_ | refine sgr ?_) | fail)
      refine sw_call (cPutInt_ok b (pts b (.cells ((intsB (m.l.take i)).map (Value.int .u8) ++ t).toArray 5 (0, 0))) _ (intsB (m.l.take i)) x RdB.own (by omega) hx) ?_
      rintro _ _ ⟨b2, t2, rfl, rfl⟩
      repeat' (first | with_reducible refine sw_in (by omega) ?_ | with_reducible (first | refine go1 ?_ | refine sct ?_ | refine scf ?_ | refine sgr ?_) | fail)
      refine sq_round ⟨(i + 1, some (b2, t2)), by omega, fun h => by cases h⟩ ?_ ?_ ?_
      · show 8 - (i + 1) < 8 - i
        omega
      · dsimp only [bufV]
        rw [hsn]
        repeat' (first | exact says_nil | refine says_cons rfl ?_ | refine says_cons (by simp) ?_)
      · show Ent _ ((b2, pts b2 (.cells ((intsB (m.l.take (i + 1))).map (Value.int .u8) ++ t2).toArray 5 (0, 0))) :: (k, r) :: F)
        rw [hsn]
        repeat' (first | with_reducible exact Ent.refl _ | with_reducible refine Ent.take_eq ?_ ?_ | rfl | with_reducible refine Ent.trans (Ent.drop _ _) ?_)
  have hi8 : i = 8 := by omega
  subst hi8
  rcases o with _ | ⟨b, t⟩
  · exact absurd (hn rfl) (by omega)
  simp only [bufV, bufR]
  have hfin : intsB (m.l.take 8) = m.b := rfl
  rw [hfin]
  repeat' (first | with_reducible (first | refine go1 ?_ | refine sct ?_ | refine scf ?_ | refine sgr ?_) | fail)
  refine sq_ret1 Try.results154 ?_
  exact ⟨_, ⟨b, t, rfl, rfl⟩, Ent.refl _⟩

theorem rcBytes_ok (k : Nat) (r : HProp) (m : Ms) (hm : m.In) : Spec Try.prog 88 [.iface 135 (.agg m.cs.toArray)] [k] [r]
    fun F w Rs' => (m.chk ≠ 0 ∧ w = .tuple #[.slice none 0 0, .int .i64 m.chk] ∧ Rs' = (k, r) :: F) ∨ (m.chk = 0 ∧ ∃ b t, w = .tuple #[.slice (some ⟨b, 0, none⟩) m.b.length (m.b.length + t.length), .int .i64 0] ∧ Rs' = (b, pts b (.cells (m.b.map (Value.int .u8) ++ t).toArray 5 (0, 0))) :: (k, r) :: F) := by
  refine spec_of Try.func88 rfl Try.ntmps88 rfl ?_
  intro w0 F
  repeat' (first | with_reducible (first | refine go1 ?_ | refine sct ?_ | refine scf ?_ | refine sgr ?_) | ((with_reducible refine sw_invoke (rcCheck_ok m) ?_); rintro _ _ ⟨rfl, rfl⟩) | (with_reducible refine sc_cond (fun h => ?_) (fun h => ?_)) <;> (try (exfalso; first | contradiction | omega | exact h Iff.rfl)) | fail)
  · refine sq_ret2 Try.results88 ?_
    exact ⟨_, .inl ⟨h, rfl, rfl⟩, Ent.refl _⟩
  · refine sw_invoke (rcPut_ok k r m hm) ?_
    rintro _ _ ⟨b, t, rfl, rfl⟩
    repeat' (first | with_reducible (first | refine go1 ?_ | refine sct ?_ | refine scf ?_ | refine sgr ?_) | fail)
    refine sq_ret2 Try.results88 ?_
    exact ⟨_, .inr ⟨by omega, b, t, rfl, rfl⟩, Ent.refl _⟩

theorem rcMaster_ok (k : Nat) (r : HProp) (m : Ms) (hm : m.In) : Spec Try.prog 61 [.agg m.cs.toArray] [k] [r]
    fun F w Rs' => (m.chk ≠ 0 ∧ w = .tuple #[.slice none 0 0, .int .i64 m.chk] ∧ Rs' = (k, r) :: F) ∨ (m.chk = 0 ∧ ∃ b t, w = .tuple #[.slice (some ⟨b, 0, none⟩) m.b.length (m.b.length + t.length), .int .i64 0] ∧ Rs' = (b, pts b (.cells (m.b.map (Value.int .u8) ++ t).toArray 5 (0, 0))) :: (k, r) :: F) := by
  refine spec_of Try.func61 rfl Try.ntmps61 rfl ?_
  intro w0 F
  repeat' (first | with_reducible (first | refine go1 ?_ | refine sct ?_ | refine scf ?_ | refine sgr ?_) | fail)
  refine sw_box fun b1 => ?_
  repeat' (first | with_reducible (first | refine go1 ?_ | refine sct ?_ | refine scf ?_ | refine sgr ?_) | fail)
  refine sw_build m.cs (by kernel_rfl) ?_
  repeat' (first | with_reducible (first | refine go1 ?_ | refine sct ?_ | refine scf ?_ | refine sgr ?_) | fail)
  refine sw_call (rcBytes_ok k r m hm) ?_
  rintro _ _ (⟨h, rfl, rfl⟩ | ⟨h, b, t, rfl, rfl⟩)
  · repeat' (first | with_reducible (first | refine go1 ?_ | refine sct ?_ | refine scf ?_ | refine sgr ?_) | fail)
    refine sq_ret2 Try.results61 ?_
    refine ⟨_, .inl ⟨h, rfl, rfl⟩, ?_⟩
    repeat' (first | with_reducible exact Ent.refl _ | with_reducible refine Ent.take_eq ?_ ?_ | rfl | with_reducible refine Ent.trans (Ent.drop _ _) ?_)
  · repeat' (first | with_reducible (first | refine go1 ?_ | refine sct ?_ | refine scf ?_ | refine sgr ?_) | fail)
    refine sq_ret2 Try.results61 ?_
    refine ⟨_, .inr ⟨h, b, t, rfl, rfl⟩, ?_⟩
    repeat' (first | with_reducible exact Ent.refl _ | with_reducible refine Ent.take_eq ?_ ?_ | rfl | with_reducible refine Ent.trans (Ent.drop _ _) ?_)
end Go.Gsl

namespace Go.Gsl
set_option linter.unusedVariables false
open Go.Proofs

/-- a reader's next int -/
def num (bs : List Int) (st : Nat × Int) : Int × Nat × Int :=
  if st.2 ≠ 0 then (0, st) else if (takeInt (bs.drop st.1)).2.2 ≠ 0 then (0, st.1, (takeInt (bs.drop st.1)).2.2)
  else ((takeInt (bs.drop st.1)).1, st.1 + (takeInt (bs.drop st.1)).2.1.toNat, 0)
theorem num_ok {bs : List Int} (hb : Byt bs) {st : Nat × Int} (h : st.1 ≤ bs.length) : (num bs st).2.1 ≤ bs.length ∧ I64 (num bs st).1 := by
  have hbd : Byt (bs.drop st.1) := fun x hx => hb x (List.mem_of_mem_drop hx)
  unfold num
  split
  · exact ⟨h, by unfold I64; omega⟩
  · split
    · exact ⟨h, by unfold I64; omega⟩
    · rename_i h1 h2
      have := takeInt_ok hbd (by omega)
      rw [List.length_drop] at this
      exact ⟨by simp only; omega, this.2.2.2⟩

/-- a reader in bytes -/
abbrev Rdr (v : Value) (st : Nat × Int) : List Value := [v, .int .i64 st.1, .int .i64 st.2]

theorem RdB.tail {r : HProp} {b o c : Nat} {bs : List Int} (hc : bs.length ≤ c) (hr : Reads r (some ⟨b, o, none⟩) (bs.map (Value.int .u8))) (at' : Nat) (h : at' ≤ bs.length) : RdB r (.slice (some ⟨b, if c = at' then o else o + at', none⟩) (bs.length - at') (c - at')) (bs.drop at') := by
  rw [← List.length_drop]
  refine .row b _ (c - at') _ (by rw [List.length_drop]; omega) ?_
  split
  · rw [List.drop_eq_nil_of_le (by omega)]
    exact reads_nil _ _
  · refine hr.shift at' fun j v hj => ?_
    rwa [List.getElem?_map, List.getElem?_drop, ← List.getElem?_map] at hj

set_option maxHeartbeats 1000000 in
theorem rcNext_ok (p k : Nat) (r : HProp) (b o c : Nat) (bs : List Int) (st : Nat × Int) (hc : bs.length ≤ c) (hr : Reads r (some ⟨b, o, none⟩) (bs.map (Value.int .u8))) (hb : Byt bs) (hl : bs.length ≤ 70368744177664) (hst : st.1 ≤ bs.length) :
    Spec Try.prog 107 [.pointer (some ⟨p, 0, none⟩), .func (.func 90) #[] #[]] [p, k] [pts p (.cells (Rdr (.slice (some ⟨b, o, none⟩) bs.length c) st).toArray 141 (0, 0)), r]
    fun F w Rs' => w = .int .i64 (num bs st).1 ∧ Rs' = (p, pts p (.cells (Rdr (.slice (some ⟨b, o, none⟩) bs.length c) (num bs st).2).toArray 141 (0, 0))) :: (k, r) :: F := by
  refine spec_of Try.func107 rfl Try.ntmps107 rfl ?_
  intro w0 F
  have hbd : Byt (bs.drop st.1) := fun x hx => hb x (List.mem_of_mem_drop hx)
  have htk := takeInt_ok hbd
  have hld : (bs.drop st.1).length = bs.length - st.1 := List.length_drop
  unfold num
  repeat' (first | with_reducible (first | refine go1 ?_ | refine sct ?_ | refine scf ?_ | refine sgr ?_) | (with_reducible refine sc_cond (fun h => ?_) (fun h => ?_)) <;> (try (exfalso; first | contradiction | omega | exact h Iff.rfl)) | fail)
  · rw [if_pos h]
    refine sq_ret1 Try.results107 ?_
    exact ⟨_, ⟨rfl, rfl⟩, Ent.refl _⟩
  have hst2 : st.2 = 0 := by omega
  rw [if_neg h]
  obtain ⟨at', e'⟩ := st
  simp only at hbd htk hld hst hst2 ⊢
  subst hst2
  have hsub := RdB.tail hc hr at' hst
  refine sc_lin ([(p, pts p (.cells (Rdr (.slice (some ⟨b, o, none⟩) bs.length c) (at', 0)).toArray 141 (0, 0)))]) (llp 0 (llp 1 (llp 2 (llp 3 (llp 4 (llp 5 (llp 6 (llp 7 (llp 8 (llp 9 (lle 10 (llp 11 (llp 12 (llp 13 (llp 14 (llp 15 (llp 16 (llp 17 ll0)))))))))))))))))) (by kernel_rfl) rfl (by kernel_rfl) ?_
  all_goals (iterate 9 refine go1l ?_)
  all_goals refine sl_take (h := runop_slice at' bs.length c (if c = at' then o else o + at') (by omega) ⟨rfl, rfl, rfl, rfl⟩) ?_
  all_goals refine sl_eff ?_
  all_goals (repeat' (first | with_reducible (first | refine go1 ?_ | refine sct ?_ | refine scf ?_ | refine sgr ?_) | ((with_reducible refine sw_callf (cInt_ok k r _ (bs.drop at') hsub hbd (by omega)) ?_); rintro _ _ ⟨rfl, rfl⟩) | with_reducible refine sl_back ?_ | fail))
  all_goals (iterate 7 refine go1l ?_)
  all_goals refine sl_done ?_
  generalize takeInt (bs.drop at') = T at htk ⊢
  rcases T with ⟨n, K, e⟩
  simp only at htk ⊢
  repeat' (first | with_reducible (first | refine go1 ?_ | refine sct ?_ | refine scf ?_ | refine sgr ?_) | (with_reducible refine sc_cond (fun h => ?_) (fun h => ?_)) <;> (try (exfalso; first | contradiction | omega | exact h Iff.rfl)) | fail)
  · rw [if_pos h]
    refine sw_store ?_
    repeat' (first | with_reducible (first | refine go1 ?_ | refine sct ?_ | refine scf ?_ | refine sgr ?_) | fail)
    refine sq_ret1 Try.results107 ?_
    exact ⟨_, ⟨rfl, rfl⟩, Ent.refl _⟩
  · rw [if_neg h]
    obtain ⟨h1, h2, h3, _⟩ := htk (by omega)
    dsimp only [Rdr]
    have hK : (at' : Int) + K = ((at' + K.toNat : Nat) : Int) := by omega
    rw [hK, IntWalk.i64_in _ (by omega)]
    refine sw_store ?_
    repeat' (first | with_reducible (first | refine go1 ?_ | refine sct ?_ | refine scf ?_ | refine sgr ?_) | fail)
    refine sq_ret1 Try.results107 ?_
    exact ⟨_, ⟨rfl, rfl⟩, Ent.refl _⟩

theorem rcNum_ok (p k : Nat) (r : HProp) (b o c : Nat) (bs : List Int) (st : Nat × Int) (hc : bs.length ≤ c) (hr : Reads r (some ⟨b, o, none⟩) (bs.map (Value.int .u8))) (hb : Byt bs) (hl : bs.length ≤ 70368744177664) (hst : st.1 ≤ bs.length) :
    Spec Try.prog 91 [.pointer (some ⟨p, 0, none⟩)] [p, k] [pts p (.cells (Rdr (.slice (some ⟨b, o, none⟩) bs.length c) st).toArray 141 (0, 0)), r]
    fun F w Rs' => w = .int .i64 (num bs st).1 ∧ Rs' = (p, pts p (.cells (Rdr (.slice (some ⟨b, o, none⟩) bs.length c) (num bs st).2).toArray 141 (0, 0))) :: (k, r) :: F := by
  refine spec_of Try.func91 rfl Try.ntmps91 rfl ?_
  intro w0 F
  repeat' (first | with_reducible (first | refine go1 ?_ | refine sct ?_ | refine scf ?_ | refine sgr ?_) | ((with_reducible refine sw_call (rcNext_ok p k r b o c bs st hc hr hb hl hst) ?_); rintro _ _ ⟨rfl, rfl⟩) | fail)
  refine sq_ret1 Try.results91 ?_
  exact ⟨_, ⟨rfl, rfl⟩, Ent.refl _⟩

/-- what a reader says at the end -/
def endE (len : Nat) (chk : Int) (st : Nat × Int) : Int := if st.2 ≠ 0 then st.2 else if st.1 < len then 13 else chk

theorem rcEnds_ok (p : Nat) (v : Value) (b o c : Nat) (len : Nat) (st : Nat × Int) (m : Ms) (hv : v = .slice (some ⟨b, o, none⟩) len c) :
    Spec Try.prog 92 [.pointer (some ⟨p, 0, none⟩), .iface 135 (.agg m.cs.toArray)] [p] [pts p (.cells (Rdr v st).toArray 141 (0, 0))]
    fun F w Rs' => w = .int .i64 (endE len m.chk st) ∧ Rs' = F := by
  subst hv
  obtain ⟨at', e'⟩ := st
  refine spec_of Try.func92 rfl Try.ntmps92 rfl ?_
  intro w0 F
  unfold endE
  simp only
  repeat' (first | with_reducible (first | refine go1 ?_ | refine sct ?_ | refine scf ?_ | refine sgr ?_) | (with_reducible refine sc_cond (fun h => ?_) (fun h => ?_)) <;> (try (exfalso; first | contradiction | omega | exact h Iff.rfl)) | fail)
  · have he : e' = 0 := by omega
    subst he
    refine sc_lin ([(p, pts p (.cells (Rdr (.slice (some ⟨b, o, none⟩) len c) (at', 0)).toArray 141 (0, 0)))]) (llp 0 (llp 1 (llp 2 (llp 3 (llp 4 (llp 5 (llp 6 (llp 7 (llp 8 (llp 9 ll0)))))))))) (by kernel_rfl) rfl (by kernel_rfl) ?_
    all_goals (iterate 10 refine go1l ?_)
    all_goals refine sl_done ?_
    repeat' (first | with_reducible (first | refine go1 ?_ | refine sct ?_ | refine scf ?_ | refine sgr ?_) | (with_reducible refine sc_cond (fun h => ?_) (fun h => ?_)) <;> (try (exfalso; first | contradiction | omega | exact h Iff.rfl)) | fail)
    · refine sw_store ?_
      repeat' (first | with_reducible (first | refine go1 ?_ | refine sct ?_ | refine scf ?_ | refine sgr ?_) | (with_reducible refine sc_cond (fun h => ?_) (fun h => ?_)) <;> (try (exfalso; first | contradiction | omega | exact h Iff.rfl)) | fail)
      refine sq_ret1 Try.results92 ?_
      refine ⟨_, ⟨?_, rfl⟩, Ent.drop _ _⟩
      rw [if_neg (by omega), if_pos (by omega)]
    · refine sw_invoke (rcCheck_ok m) ?_
      rintro _ _ ⟨rfl, rfl⟩
      repeat' (first | with_reducible (first | refine go1 ?_ | refine sct ?_ | refine scf ?_ | refine sgr ?_) | fail)
      refine sw_store ?_
      repeat' (first | with_reducible (first | refine go1 ?_ | refine sct ?_ | refine scf ?_ | refine sgr ?_) | fail)
      refine sq_ret1 Try.results92 ?_
      refine ⟨_, ⟨?_, rfl⟩, Ent.drop _ _⟩
      rw [if_neg (by omega), if_neg (by omega)]
  · refine sq_ret1 Try.results92 ?_
    refine ⟨_, ⟨?_, rfl⟩, Ent.drop _ _⟩
    rw [if_pos (by omega)]
end Go.Gsl

namespace Go.Gsl
set_option linter.unusedVariables false
open Go.Proofs

/-- a reader's ints, one behind the other -/
def nth (bs : List Int) : Nat → Int × Nat × Int
  | 0 => num bs (0, 0)
  | k + 1 => num bs (nth bs k).2
theorem nth_ok {bs : List Int} (hb : Byt bs) : ∀ k, (nth bs k).2.1 ≤ bs.length ∧ I64 (nth bs k).1
  | 0 => num_ok hb (Nat.zero_le _)
  | k + 1 => num_ok hb (nth_ok hb k).1
def takeMs (bs : List Int) : Ms := ⟨(nth bs 0).1, (nth bs 1).1, (nth bs 2).1, (nth bs 3).1, (nth bs 4).1, (nth bs 5).1, (nth bs 6).1, (nth bs 7).1⟩
def takeEr (bs : List Int) : Int := endE bs.length (takeMs bs).chk (nth bs 7).2
/-- the master of bytes, and what is wrong -/
def takeM (bs : List Int) : Ms × Int := if takeEr bs ≠ 0 then (Ms.zero, takeEr bs) else (takeMs bs, 0)

set_option maxHeartbeats 1000000 in
theorem rcTakeMaster_ok (k : Nat) (r : HProp) (b o c : Nat) (bs : List Int) (hc : bs.length ≤ c) (hr : Reads r (some ⟨b, o, none⟩) (bs.map (Value.int .u8))) (hb : Byt bs) (hl : bs.length ≤ 70368744177664) :
    Spec Try.prog 64 [.slice (some ⟨b, o, none⟩) bs.length c] [k] [r] fun F w Rs' => w = .tuple #[.agg (takeM bs).1.cs.toArray, .int .i64 (takeM bs).2] ∧ Rs' = (k, r) :: F := by
  refine spec_of Try.func64 rfl Try.ntmps64 rfl ?_
  intro w0 F
  have hn := nth_ok hb
  repeat' (first | with_reducible (first | refine go1 ?_ | refine sct ?_ | refine scf ?_ | refine sgr ?_) | fail)
  refine sw_alloc fun b0 => ?_
  repeat' (first | with_reducible (first | refine go1 ?_ | refine sct ?_ | refine scf ?_ | refine sgr ?_) | fail)
  refine sw_build (Rdr (.slice (some ⟨b, o, none⟩) bs.length c) (0, 0)) rfl ?_
  refine sw_box fun p => ?_
  repeat' (first | with_reducible (first | refine go1 ?_ | refine sct ?_ | refine scf ?_ | refine sgr ?_) | fail)
  refine sw_call (rcNum_ok p k r b o c bs (0, 0) hc hr hb hl (Nat.zero_le _)) ?_
  rintro _ _ ⟨rfl, rfl⟩
  repeat' (first | with_reducible (first | refine go1 ?_ | refine sct ?_ | refine scf ?_ | refine sgr ?_) | fail)
  refine sw_call (rcNum_ok p k r b o c bs (nth bs 0).2 hc hr hb hl (hn 0).1) ?_
  rintro _ _ ⟨rfl, rfl⟩
  repeat' (first | with_reducible (first | refine go1 ?_ | refine sct ?_ | refine scf ?_ | refine sgr ?_) | fail)
  refine sw_call (rcNum_ok p k r b o c bs (nth bs 1).2 hc hr hb hl (hn 1).1) ?_
  rintro _ _ ⟨rfl, rfl⟩
  repeat' (first | with_reducible (first | refine go1 ?_ | refine sct ?_ | refine scf ?_ | refine sgr ?_) | fail)
  refine sw_call (rcNum_ok p k r b o c bs (nth bs 2).2 hc hr hb hl (hn 2).1) ?_
  rintro _ _ ⟨rfl, rfl⟩
  repeat' (first | with_reducible (first | refine go1 ?_ | refine sct ?_ | refine scf ?_ | refine sgr ?_) | fail)
  refine sw_call (rcNum_ok p k r b o c bs (nth bs 3).2 hc hr hb hl (hn 3).1) ?_
  rintro _ _ ⟨rfl, rfl⟩
  repeat' (first | with_reducible (first | refine go1 ?_ | refine sct ?_ | refine scf ?_ | refine sgr ?_) | fail)
  refine sw_call (rcNum_ok p k r b o c bs (nth bs 4).2 hc hr hb hl (hn 4).1) ?_
  rintro _ _ ⟨rfl, rfl⟩
  repeat' (first | with_reducible (first | refine go1 ?_ | refine sct ?_ | refine scf ?_ | refine sgr ?_) | fail)
  refine sw_call (rcNum_ok p k r b o c bs (nth bs 5).2 hc hr hb hl (hn 5).1) ?_
  rintro _ _ ⟨rfl, rfl⟩
  repeat' (first | with_reducible (first | refine go1 ?_ | refine sct ?_ | refine scf ?_ | refine sgr ?_) | fail)
  refine sw_call (rcNum_ok p k r b o c bs (nth bs 6).2 hc hr hb hl (hn 6).1) ?_
  rintro _ _ ⟨rfl, rfl⟩
  repeat' (first | with_reducible (first | refine go1 ?_ | refine sct ?_ | refine scf ?_ | refine sgr ?_) | fail)
  refine sw_build [.int .i64 (nth bs 4).1, .int .i64 (nth bs 5).1, .int .i64 (nth bs 6).1, .int .i64 (nth bs 7).1] (by kernel_rfl) ?_
  refine sw_build (takeMs bs).cs (by kernel_rfl) ?_
  refine sw_alloc fun b1 => ?_
  refine sw_store_agg ?_
  repeat' (first | with_reducible (first | refine go1 ?_ | refine sct ?_ | refine scf ?_ | refine sgr ?_) | fail)
  refine sw_build (takeMs bs).cs (by kernel_rfl) ?_
  repeat' (first | with_reducible (first | refine go1 ?_ | refine sct ?_ | refine scf ?_ | refine sgr ?_) | fail)
  refine sw_call (rcEnds_ok p _ b o c bs.length (nth bs 7).2 (takeMs bs) rfl) ?_
  rintro _ _ ⟨rfl, rfl⟩
  show SW _ _ _ _ _ _ ((_, .int .i64 (takeEr bs)) :: _) _
  unfold takeM
  repeat' (first | with_reducible (first | refine go1 ?_ | refine sct ?_ | refine scf ?_ | refine sgr ?_) | (with_reducible refine sc_cond (fun h => ?_) (fun h => ?_)) <;> (try (exfalso; first | contradiction | omega | exact h Iff.rfl)) | fail)
  · rw [if_pos h]
    refine sw_build Ms.zero.cs (by kernel_rfl) ?_
    repeat' (first | with_reducible (first | refine go1 ?_ | refine sct ?_ | refine scf ?_ | refine sgr ?_) | fail)
    refine sw_store_agg ?_
    repeat' (first | with_reducible (first | refine go1 ?_ | refine sct ?_ | refine scf ?_ | refine sgr ?_) | fail)
    refine sq_resAT Try.results64 (by first | exact .inl rfl | exact .inr rfl) rfl ?_
    refine ⟨_, ⟨rfl, rfl⟩, ?_⟩
    repeat' (first | with_reducible exact Ent.refl _ | with_reducible refine Ent.take_eq ?_ ?_ | rfl | with_reducible refine Ent.trans (Ent.drop _ _) ?_)
  · rw [if_neg h]
    refine sw_store_agg ?_
    repeat' (first | with_reducible (first | refine go1 ?_ | refine sct ?_ | refine scf ?_ | refine sgr ?_) | fail)
    refine sq_resAT Try.results64 (by first | exact .inl rfl | exact .inr rfl) rfl ?_
    refine ⟨_, ⟨rfl, rfl⟩, ?_⟩
    repeat' (first | with_reducible exact Ent.refl _ | with_reducible refine Ent.take_eq ?_ ?_ | rfl | with_reducible refine Ent.trans (Ent.drop _ _) ?_)
end Go.Gsl
