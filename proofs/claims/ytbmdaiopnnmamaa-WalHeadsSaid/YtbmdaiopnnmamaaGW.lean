/- The log's sectors: numbers in bytes, the lowest one first. -/
import Derived.Test.YtbmdaiopnnmamaaGK
import Derived.Test.YtbmdaiopnnmamaaGB
import Derived.Test.YtbmdaiopnnmamaaGE
import Derived.Lib.AppendZeros
namespace Go.Gsl
set_option linter.unusedVariables false
open Go.Proofs

/-- a number's lowest bytes, the lowest one first -/
def le (k : Nat) (v : Int) : List Int := (List.range k).map fun i => v / 256 ^ i % 256
theorem le_len (k : Nat) (v : Int) : (le k v).length = k := by unfold le; simp
theorem le_byt (k : Nat) (v : Int) : Byt (le k v) := by
  intro x hx
  unfold le at hx
  obtain ⟨i, _, rfl⟩ := List.mem_map.1 hx
  omega
theorem le_succ (k : Nat) (v : Int) : le (k + 1) v = le k v ++ [v / 256 ^ k % 256] := by
  unfold le; rw [List.range_succ, List.map_append]; rfl
/-- the number of bytes, the lowest one first -/
def ofLE (xs : List Int) : Int := ofBE xs.reverse
theorem ofLE_in {xs : List Int} (hb : Byt xs) : 0 ≤ ofLE xs ∧ ofLE xs < ((256 ^ xs.length : Nat) : Int) := by
  unfold ofLE
  have := ofBE_lt xs.reverse.length xs.reverse rfl (fun x hx => hb x (List.mem_reverse.1 hx))
  rwa [List.length_reverse] at this
theorem le_rev : ∀ (k : Nat) (v : Int), (le k v).reverse = beB k v
  | 0, v => rfl
  | k + 1, v => by
    rw [beB_succ, ← le_rev k (v / 256)]
    have h : le (k + 1) v = (v % 256) :: le k (v / 256) := by
      unfold le
      rw [List.range_succ_eq_map, List.map_cons, List.map_map]
      congr 1
      · simp
      · apply List.map_congr_left
        intro i _
        show v / 256 ^ (i + 1) % 256 = v / 256 / 256 ^ i % 256
        rw [pow_succ256, Int.mul_comm, ← Int.ediv_ediv_of_nonneg (by omega)]
    rw [h, List.reverse_cons]
theorem ofLE_le {k : Nat} {v : Int} (h0 : 0 ≤ v) (h1 : v < 256 ^ k) : ofLE (le k v) = v := by
  unfold ofLE
  rw [le_rev]
  exact ofBE_beB k v h0 h1

theorem wLittle_ok (k : Nat) (r : HProp) (v : Int) (hv : 0 ≤ v) (m : Nat) (hm : 1 ≤ m ∧ m ≤ 8) : Spec Try.prog 51 [.int .u64 v, .int .i64 m] [k] [r]
    fun F w Rs' => ∃ b t, w = .slice (some ⟨b, 0, none⟩) m (m + t.length) ∧ Rs' = (b, pts b (.cells ((le m v).map (Value.int .u8) ++ t).toArray 5 (0, 0))) :: (k, r) :: F := by
  refine spec_of Try.func51 rfl Try.ntmps51 rfl ?_
  intro w0 F
  repeat' (first | with_reducible (first | refine go1 ?_ | refine sct ?_ | refine scf ?_ | refine sgr ?_) | fail)
  refine sc_loop (α := { x : Nat × Option (Nat × List Value) // x.1 ≤ m ∧ (x.2 = none ↔ x.1 = 0) }) (fun x => [(0, .int .u64 (v / 256 ^ x.1.1)), (5, bufV x.1.1 x.1.2), (6, .int .i64 m), (7, .int .i64 (x.1.1 : Int))])
    (fun x => bufR 5 (le x.1.1 v) ((k, r) :: F) x.1.2) (fun x => m - x.1.1) ⟨(0, none), Nat.zero_le _, by simp⟩ ?_ ?_ ?_
  · refine says_cons ?_ (says_cons rfl (says_cons rfl (says_cons rfl says_nil)))
    simp
  · exact Ent.refl _
  rintro ⟨⟨i, o⟩, hi, hn⟩ e
  (try simp only at hi hn)
  simp only [List.cons_append, List.nil_append]
  have hll := le_len i v
  have hdv : v / 256 ^ i / 256 = v / 256 ^ (i + 1) := by rw [pow_succ256, Int.ediv_ediv_of_nonneg (Int.le_of_lt (Int.pow_pos (by omega)))]
  have hpos : 0 ≤ v / 256 ^ i := Int.ediv_nonneg hv (Int.le_of_lt (Int.pow_pos (by omega)))
  repeat' (first | with_reducible (first | refine go1 ?_ | refine sct ?_ | refine scf ?_ | refine sgr ?_) | (with_reducible refine sc_cond (fun h => ?_) (fun h => ?_)) <;> (try (exfalso; first | contradiction | omega | exact h Iff.rfl)) | fail)
  · rw [wrap_u8_mod]
    rcases o with _ | ⟨b, t⟩
    · have h0 := hn.1 rfl
      subst h0
      simp only [bufV, bufR]
      refine sw_buildSlice [.int .u8 (v / 256 ^ 0 % 256)] (by omega) rfl fun b1 => ?_
      refine sw_append_nil (src := [Value.int .u8 (v / 256 ^ 0 % 256)]) src_pts0 ⟨by simp, rfl, by simp, by simp⟩ fun b4 t4 => ?_
      repeat' (first | with_reducible (first | refine go1 ?_ | refine sct ?_ | refine scf ?_ | refine sgr ?_) | fail)
      refine sw_shrP (k := .u64) 8 256 ⟨rfl, by decide, hpos, rfl⟩ ?_
      repeat' (first | with_reducible refine sw_in (by omega) ?_ | with_reducible (first | refine go1 ?_ | refine sct ?_ | refine scf ?_ | refine sgr ?_) | fail)
      rw [hdv]
      refine sq_round ⟨(1, some (b4, t4)), by omega, by simp⟩ ?_ ?_ ?_
      · show m - 1 < m - 0
        omega
      · repeat' (first | exact says_nil | refine says_cons rfl ?_ | refine says_cons (by simp) ?_)
      · show Ent _ ((b4, pts b4 (.cells ((le 1 v).map (Value.int .u8) ++ t4).toArray 5 (0, 0))) :: (k, r) :: F)
        rw [le_succ]
        repeat' (first | with_reducible exact Ent.refl _ | with_reducible refine Ent.take_eq ?_ ?_ | rfl | with_reducible refine Ent.trans (Ent.drop _ _) ?_)
    · simp only [bufV, bufR]
      refine sw_buildSlice [.int .u8 (v / 256 ^ i % 256)] (by omega) rfl fun b1 => ?_
      refine sw_append (m := i) (src := [Value.int .u8 (v / 256 ^ i % 256)]) src_pts0 (by simp [Value.oneCell']) ⟨by omega, by rw [List.length_append, List.length_map, hll], rfl, by simp only [List.length_singleton]; omega, by simp only [List.length_singleton]; omega⟩ fun b4 t4 => ?_
      rw [List.take_left' (by rw [List.length_map, hll])]
      repeat' (first | with_reducible (first | refine go1 ?_ | refine sct ?_ | refine scf ?_ | refine sgr ?_) | fail)
      refine sw_shrP (k := .u64) 8 256 ⟨rfl, by decide, hpos, rfl⟩ ?_
      repeat' (first | with_reducible refine sw_in (by omega) ?_ | with_reducible (first | refine go1 ?_ | refine sct ?_ | refine scf ?_ | refine sgr ?_) | fail)
      rw [hdv]
      refine sq_round ⟨(i + 1, some (b4, t4)), by omega, by simp⟩ ?_ ?_ ?_
      · show m - (i + 1) < m - i
        omega
      · repeat' (first | exact says_nil | refine says_cons rfl ?_ | refine says_cons (by simp) ?_)
      · show Ent _ ((b4, pts b4 (.cells ((le (i + 1) v).map (Value.int .u8) ++ t4).toArray 5 (0, 0))) :: (k, r) :: F)
        rw [le_succ, List.map_append]
        repeat' (first | with_reducible exact Ent.refl _ | with_reducible refine Ent.take_eq ?_ ?_ | rfl | with_reducible refine Ent.trans (Ent.drop _ _) ?_)
  · have him : i = m := by omega
    subst him
    rcases o with _ | ⟨b, t⟩
    · have := hn.1 rfl
      omega
    simp only [bufV, bufR]
    repeat' (first | with_reducible (first | refine go1 ?_ | refine sct ?_ | refine scf ?_ | refine sgr ?_) | fail)
    refine sq_ret1 Try.results51 ?_
    exact ⟨_, ⟨b, t, rfl, rfl⟩, Ent.refl _⟩

theorem wBig_ok (k : Nat) (r : HProp) (v : Value) (bs : List Int) (hv : RdB r v bs) (hb : Byt bs) (hl : bs.length ≤ 8) : Spec Try.prog 56 [v] [k] [r] fun F w Rs' => w = .int .u64 (ofLE bs) ∧ Rs' = (k, r) :: F := by
  refine spec_of Try.func56 rfl Try.ntmps56 rfl ?_
  intro w0 F
  obtain ⟨a, c, rfl, hsome, hc, hr⟩ := hv.gen
  repeat' (first | with_reducible refine sw_in (by omega) ?_ | with_reducible (first | refine go1 ?_ | refine sct ?_ | refine scf ?_ | refine sgr ?_) | fail)
  refine sc_loop (α := { i : Nat // i ≤ bs.length }) (fun i => [(0, .slice a bs.length c), (3, .int .u64 (ofBE (bs.reverse.take i.1))), (4, .int .i64 ((bs.length : Int) - 1 - (i.1 : Int)))])
    (fun _ => (k, r) :: F) (fun i => bs.length - i.1) ⟨0, Nat.zero_le _⟩ ?_ ?_ ?_
  · refine says_cons rfl (says_cons rfl (says_cons ?_ says_nil))
    simp
  · exact Ent.refl _
  rintro ⟨i, hi⟩ e
  (try simp only at hi)
  simp only [List.cons_append, List.nil_append]
  repeat' (first | with_reducible refine sw_in (by omega) ?_ | with_reducible (first | refine go1 ?_ | refine sct ?_ | refine scf ?_ | refine sgr ?_) | (with_reducible refine sc_cond (fun h => ?_) (fun h => ?_)) <;> (try (exfalso; first | contradiction | omega | exact h Iff.rfl)) | fail)
  · obtain ⟨b, o, rfl⟩ := hsome (by omega)
    have hi2 : bs.length - 1 - i < bs.length := by omega
    have hri : bs[bs.length - 1 - i]? = some bs[bs.length - 1 - i] := List.getElem?_eq_getElem hi2
    have hbi := hb _ (List.getElem_mem hi2)
    have hrev : bs.reverse[i]? = some bs[bs.length - 1 - i] := by rw [List.getElem?_reverse (by omega), hri]
    have hsn : ofBE (bs.reverse.take (i + 1)) = ofBE (bs.reverse.take i) * 256 + bs[bs.length - 1 - i] := by
      rw [List.take_add_one, hrev, Option.toList_some, ofBE_snoc]
    have hU := ofBE_lt i (bs.reverse.take i) (by rw [List.length_take, List.length_reverse]; omega) (fun x hx => hb x (List.mem_reverse.1 (List.mem_of_mem_take hx)))
    have hp := pow_le7 (i := i) (by omega)
    refine sw_shlP (k := .u64) 8 256 ⟨rfl, by decide, rfl⟩ (by omega) ?_
    repeat' (first | with_reducible (first | refine go1 ?_ | refine sct ?_ | refine scf ?_ | refine sgr ?_) | fail)
    refine sw_index (by omega) ?_
    refine sw_load_rd k (bs.length - 1 - i) (.int .u8 bs[bs.length - 1 - i]) hr (by rw [List.getElem?_map, hri]; rfl) (by omega) ?_
    generalize bs[bs.length - 1 - i] = y at *
    repeat' (first | with_reducible refine sw_in (by omega) ?_ | with_reducible (first | refine go1 ?_ | refine sct ?_ | refine scf ?_ | refine sgr ?_) | fail)
    rw [ior_u64 (by omega) hbi (by omega), ← hsn]
    refine sq_round ⟨i + 1, by omega⟩ ?_ ?_ ?_
    · show bs.length - (i + 1) < bs.length - i
      omega
    · refine says_cons rfl (says_cons rfl (says_cons ?_ says_nil))
      have : (bs.length : Int) - 1 - ((i + 1 : Nat) : Int) = (bs.length : Int) - 1 - (i : Int) - 1 := by omega
      rw [this]
      try rfl
    · exact Ent.refl _
  · have hil : i = bs.length := by omega
    subst hil
    rw [List.take_of_length_le (by rw [List.length_reverse]; exact Nat.le_refl _)]
    repeat' (first | with_reducible (first | refine go1 ?_ | refine sct ?_ | refine scf ?_ | refine sgr ?_) | fail)
    refine sq_ret1 Try.results56 ?_
    exact ⟨_, ⟨rfl, rfl⟩, Ent.refl _⟩

def Plc (x : Int) : Prop := 0 ≤ x ∧ x ≤ 529964604588032
instance (x : Int) : Decidable (Plc x) := inferInstanceAs (Decidable (_ ∧ _))
theorem wStamp_ok (x : Int) : Spec Try.prog 49 [.int .i64 x] [] [] fun F v Rs' => v = .bool (decide (Stamp x 0)) ∧ Rs' = F := by
  refine spec_of Try.func49 rfl Try.ntmps49 rfl ?_
  intro w0 F
  repeat' (first | with_reducible (first | refine go1 ?_ | refine sct ?_ | refine scf ?_ | refine sgr ?_) | (with_reducible refine sc_cond (fun h => ?_) (fun h => ?_)) <;> (try (exfalso; first | contradiction | omega | exact h Iff.rfl)) | (with_reducible refine sw_guard_split (fun h => ?_) (fun h => ?_)) <;> (try (exfalso; first | contradiction | omega | exact h Iff.rfl)) | (with_reducible refine sw_pick (fun h => ?_) (fun h => ?_)) <;> (try (exfalso; first | contradiction | omega | exact h Iff.rfl)) | fail)
  · refine sq_ret1 Try.results49 ?_
    exact ⟨_, ⟨by congr 1; simp [Stamp, h], rfl⟩, Ent.refl _⟩
  · refine sq_ret1 Try.results49 ?_
    exact ⟨_, ⟨by congr 1; simp [Stamp, h], rfl⟩, Ent.refl _⟩
theorem wPlace0_ok (x : Int) : Spec Try.prog 50 [.int .i64 x] [] [] fun F v Rs' => v = .bool (decide (Plc x)) ∧ Rs' = F := by
  refine spec_of Try.func50 rfl Try.ntmps50 rfl ?_
  intro w0 F
  repeat' (first | with_reducible (first | refine go1 ?_ | refine sct ?_ | refine scf ?_ | refine sgr ?_) | (with_reducible refine sc_cond (fun h => ?_) (fun h => ?_)) <;> (try (exfalso; first | contradiction | omega | exact h Iff.rfl)) | (with_reducible refine sw_guard_split (fun h => ?_) (fun h => ?_)) <;> (try (exfalso; first | contradiction | omega | exact h Iff.rfl)) | (with_reducible refine sw_pick (fun h => ?_) (fun h => ?_)) <;> (try (exfalso; first | contradiction | omega | exact h Iff.rfl)) | fail)
  · refine sq_ret1 Try.results50 ?_
    exact ⟨_, ⟨by congr 1; simp [Plc, h], rfl⟩, Ent.refl _⟩
  · refine sq_ret1 Try.results50 ?_
    exact ⟨_, ⟨by congr 1; simp [Plc, h], rfl⟩, Ent.refl _⟩
end Go.Gsl

namespace Go.Gsl
set_option linter.unusedVariables false
open Go.Proofs

/-- the bytes behind the sum -/
def hdRest (seq run began : Int) (data : List Int) : List Int := le 8 seq ++ le 8 run ++ le 8 began ++ le 2 data.length ++ data ++ List.replicate (482 - data.length) 0
def hdSec (seq run began : Int) (data : List Int) : List Int := le 4 (adler (hdRest seq run began data)) ++ hdRest seq run began data
theorem hdRest_len {seq run began : Int} {data : List Int} (h : data.length ≤ 482) : (hdRest seq run began data).length = 508 := by
  unfold hdRest
  simp only [List.length_append, le_len, List.length_replicate]
  omega
theorem hdSec_len {seq run began : Int} {data : List Int} (h : data.length ≤ 482) : (hdSec seq run began data).length = 512 := by
  unfold hdSec
  rw [List.length_append, le_len, hdRest_len h]
theorem zeros_byt (n : Nat) : Byt (List.replicate n 0) := fun x hx => by rw [List.eq_of_mem_replicate hx]; omega
theorem hdRest_byt {seq run began : Int} {data : List Int} (hb : Byt data) : Byt (hdRest seq run began data) :=
  ((((((le_byt _ _).app (le_byt _ _)).app (le_byt _ _)).app (le_byt _ _)).app hb).app (zeros_byt _))
theorem hdSec_byt {seq run began : Int} {data : List Int} (hb : Byt data) : Byt (hdSec seq run began data) := (le_byt _ _).app (hdRest_byt hb)
def HdOk (seq run began : Int) (n : Nat) : Prop := Stamp seq 0 ∧ Stamp run 0 ∧ Plc began ∧ n ≤ 482
instance (a b c : Int) (n : Nat) : Decidable (HdOk a b c n) := inferInstanceAs (Decidable (_ ∧ _))

/-- the pieces behind the sum -/
def hdPieces (seq run began : Int) (data : List Int) : List (List Int) := [le 8 seq, le 8 run, le 8 began, le 2 data.length, data, List.replicate (482 - data.length) 0]
theorem hdPieces_flat (seq run began : Int) (data : List Int) : (hdPieces seq run began data).flatten = hdRest seq run began data := by
  simp [hdPieces, hdRest, List.append_assoc]
theorem hdPieces_len {seq run began : Int} {data : List Int} (h : data.length ≤ 482) (i : Nat) : ((hdPieces seq run began data).take i).flatten.length ≤ 508 := by
  have h1 : ((hdPieces seq run began data).take i).flatten.length + ((hdPieces seq run began data).drop i).flatten.length = 508 := by
    rw [← List.length_append, ← List.flatten_append, List.take_append_drop, hdPieces_flat, hdRest_len h]
  omega
theorem take_flat {ps : List (List Int)} {i : Nat} {x : List Int} (h : ps[i]? = some x) : (ps.take (i + 1)).flatten = (ps.take i).flatten ++ x := by
  rw [List.take_add_one, h, List.flatten_append]; simp

theorem wLittle_w (k : Nat) (r : HProp) (v : Int) (hv : 0 ≤ v ∧ v ≤ 529964604588032) (M : Int) (m : Nat) (hM : M = m) (hm : 1 ≤ m ∧ m ≤ 8) : Spec Try.prog 51 [.int .u64 (IntKind.u64.wrap v), .int .i64 M] [k] [r]
    fun F w Rs' => ∃ b t, w = .slice (some ⟨b, 0, none⟩) m (m + t.length) ∧ Rs' = (b, pts b (.cells ((le m v).map (Value.int .u8) ++ t).toArray 5 (0, 0))) :: (k, r) :: F := by
  subst hM
  rw [wrap_u64 (by omega)]
  exact wLittle_ok k r v hv.1 m hm

set_option maxHeartbeats 2000000 in
theorem wHead_bx (k : Nat) (r : HProp) (seq run began : Int) (v : Value) (bs : List Int) (hv : RdBx r v bs) (hb : Byt bs) (hl : bs.length ≤ 140737488355328) :
    Spec Try.prog 12 [.int .i64 seq, .int .i64 run, .int .i64 began, v] [k] [r]
    fun F w Rs' => (¬ HdOk seq run began bs.length ∧ w = .tuple #[.slice none 0 0, .int .i64 1] ∧ Rs' = (k, r) :: F) ∨
      (HdOk seq run began bs.length ∧ ∃ b t, w = .tuple #[.slice (some ⟨b, 0, none⟩) (hdSec seq run began bs).length ((hdSec seq run began bs).length + t.length), .int .i64 0] ∧ Rs' = (b, pts b (.cells ((hdSec seq run began bs).map (Value.int .u8) ++ t).toArray 5 (0, 0))) :: (k, r) :: F) := by
  refine spec_of Try.func12 rfl Try.ntmps12 rfl ?_
  intro w0 F
  obtain ⟨a, c, rfl, hc, hsome, hr⟩ := hv
  rcases Classical.em (HdOk seq run began bs.length) with hH | hH
  rotate_left
  · repeat' (first | with_reducible (first | refine go1 ?_ | refine sct ?_ | refine scf ?_ | refine sgr ?_) | with_reducible refine sw_guard_skip_u ?_ | ((with_reducible refine sw_call (wStamp_ok _) ?_); rintro _ _ ⟨rfl, rfl⟩) | ((with_reducible refine sw_call (wPlace0_ok _) ?_); rintro _ _ ⟨rfl, rfl⟩) | (with_reducible refine sw_guard_split (fun h => ?_) (fun h => ?_)) <;> (try (exfalso; first | contradiction | omega | exact h Iff.rfl)) | (with_reducible refine sc_cond (fun h => ?_) (fun h => ?_)) <;> (try (exfalso; first | contradiction | omega | exact h Iff.rfl)) | (with_reducible refine sw_pick (fun h => ?_) (fun h => ?_)) <;> (try (exfalso; first | contradiction | omega | exact h Iff.rfl)) | fail)
    all_goals first
      | (refine sq_ret2 Try.results12 ?_; exact ⟨_, .inl ⟨hH, rfl, rfl⟩, Ent.refl _⟩)
      | (exfalso; exact hH ⟨Classical.not_not.1 (by assumption), Classical.not_not.1 (by assumption), Classical.not_not.1 (by assumption), by omega⟩)
  obtain ⟨g1, g2, g3, g4⟩ := hH
  have g1' : 0 ≤ seq ∧ seq ≤ 1099511627776 := g1
  have g2' : 0 ≤ run ∧ run ≤ 1099511627776 := g2
  have g3' : 0 ≤ began ∧ began ≤ 529964604588032 := g3
  repeat' (first | with_reducible (first | refine go1 ?_ | refine sct ?_ | refine scf ?_ | refine sgr ?_) | with_reducible refine sw_guard_skip_u ?_ | ((with_reducible refine sw_call (wStamp_ok _) ?_); rintro _ _ ⟨rfl, rfl⟩) | ((with_reducible refine sw_call (wPlace0_ok _) ?_); rintro _ _ ⟨rfl, rfl⟩) | (with_reducible refine sw_guard_split (fun h => ?_) (fun h => ?_)) <;> (try (exfalso; first | contradiction | omega | exact h Iff.rfl)) | (with_reducible refine sc_cond (fun h => ?_) (fun h => ?_)) <;> (try (exfalso; first | contradiction | omega | exact h Iff.rfl)) | (with_reducible refine sw_pick (fun h => ?_) (fun h => ?_)) <;> (try (exfalso; first | contradiction | omega | exact h Iff.rfl)) | fail)
  have L1 := wLittle_w k r seq (by omega) 8 8 rfl (by omega)
  have L2 := wLittle_w k r run (by omega) 8 8 rfl (by omega)
  have L3 := wLittle_w k r began (by omega) 8 8 rfl (by omega)
  have L4 := wLittle_w k r (bs.length : Int) (by omega) 2 2 rfl (by omega)
  refine sc_drawC (m := 20) ([(k, r)]) CalmC.out (by kernel_rfl) rfl (fun hcalm => ?_)
  all_goals (first | refine sg_take 0 hcalm rfl (by kernel_rfl) (by kernel_rfl) (by kernel_rfl) ?_)
  all_goals (first | refine sg_take_as 1 hcalm rfl (by kernel_rfl) (by kernel_rfl) (by kernel_rfl) (by rw [IntWalk.i64_in _ (by omega)]) ?_ | refine sg_take 1 hcalm rfl (by kernel_rfl) (by kernel_rfl) (by kernel_rfl) ?_)
  all_goals (first | refine sg_take 3 hcalm rfl (by kernel_rfl) (by kernel_rfl) (by kernel_rfl) ?_)
  all_goals (first | refine sg_take_as 4 hcalm rfl (by kernel_rfl) (by kernel_rfl) (by kernel_rfl) (by rw [IntWalk.i64_in _ (by omega)]) ?_ | refine sg_take 4 hcalm rfl (by kernel_rfl) (by kernel_rfl) (by kernel_rfl) ?_)
  all_goals (first | refine sg_take 6 hcalm rfl (by kernel_rfl) (by kernel_rfl) (by kernel_rfl) ?_)
  all_goals (first | refine sg_take_as 7 hcalm rfl (by kernel_rfl) (by kernel_rfl) (by kernel_rfl) (by rw [IntWalk.i64_in _ (by omega)]) ?_ | refine sg_take 7 hcalm rfl (by kernel_rfl) (by kernel_rfl) (by kernel_rfl) ?_)
  all_goals (first | refine sg_take 9 hcalm rfl (by kernel_rfl) (by kernel_rfl) (by kernel_rfl) ?_)
  all_goals (first | refine sg_take 10 hcalm rfl (by kernel_rfl) (by kernel_rfl) (by kernel_rfl) ?_)
  all_goals (first | refine sg_take_as 11 hcalm rfl (by kernel_rfl) (by kernel_rfl) (by kernel_rfl) (by rw [IntWalk.i64_in _ (by omega)]) ?_ | refine sg_take 11 hcalm rfl (by kernel_rfl) (by kernel_rfl) (by kernel_rfl) ?_)
  all_goals (first | refine sg_take 13 hcalm rfl (by kernel_rfl) (by kernel_rfl) (by kernel_rfl) ?_)
  all_goals (first | refine sg_take 14 hcalm rfl (by kernel_rfl) (by kernel_rfl) (by kernel_rfl) ?_)
  all_goals (first | refine sg_take 15 hcalm rfl (by kernel_rfl) (by kernel_rfl) (by kernel_rfl) ?_)
  all_goals (first | refine sg_take_as 16 hcalm rfl (by kernel_rfl) (by kernel_rfl) (by kernel_rfl) (by rw [IntWalk.i64_in _ (by omega)]) ?_ | refine sg_take 16 hcalm rfl (by kernel_rfl) (by kernel_rfl) (by kernel_rfl) ?_)
  all_goals (first | refine sg_take 19 hcalm rfl (by kernel_rfl) (by kernel_rfl) (by kernel_rfl) ?_)
  refine sg_two 2 17 rfl rfl (by kernel_rfl) rfl ?g1a ?g1b
  case' g1a =>
    all_goals (repeat' (first | with_reducible refine sw_in (by omega) ?_ | with_reducible (first | refine go1 ?_ | refine sct ?_ | refine scf ?_ | refine sgr ?_) | ((with_reducible refine sw_call L1 ?_); rintro _ _ ⟨b1, t1, rfl, rfl⟩) | ((with_reducible refine sw_call L2 ?_); rintro _ _ ⟨b2, t2, rfl, rfl⟩) | ((with_reducible refine sw_call L3 ?_); rintro _ _ ⟨b3, t3, rfl, rfl⟩) | ((with_reducible refine sw_call L4 ?_); rintro _ _ ⟨b4, t4, rfl, rfl⟩) | with_reducible refine sw_makeSlice (482 - bs.length) (482 - bs.length) ⟨by omega, by omega, by omega, by omega, by omega⟩ fun b5 => ?_ | with_reducible refine sg_back ?_ | fail))
    refine sg_two 5 17 rfl rfl (by kernel_rfl) rfl ?g2a ?g2b
    case' g2a =>
      all_goals (repeat' (first | with_reducible refine sw_in (by omega) ?_ | with_reducible (first | refine go1 ?_ | refine sct ?_ | refine scf ?_ | refine sgr ?_) | ((with_reducible refine sw_call L1 ?_); rintro _ _ ⟨b1, t1, rfl, rfl⟩) | ((with_reducible refine sw_call L2 ?_); rintro _ _ ⟨b2, t2, rfl, rfl⟩) | ((with_reducible refine sw_call L3 ?_); rintro _ _ ⟨b3, t3, rfl, rfl⟩) | ((with_reducible refine sw_call L4 ?_); rintro _ _ ⟨b4, t4, rfl, rfl⟩) | with_reducible refine sw_makeSlice (482 - bs.length) (482 - bs.length) ⟨by omega, by omega, by omega, by omega, by omega⟩ fun b5 => ?_ | with_reducible refine sg_back ?_ | fail))
      refine sg_two 8 17 rfl rfl (by kernel_rfl) rfl ?g3a ?g3b
      case' g3a =>
        all_goals (repeat' (first | with_reducible refine sw_in (by omega) ?_ | with_reducible (first | refine go1 ?_ | refine sct ?_ | refine scf ?_ | refine sgr ?_) | ((with_reducible refine sw_call L1 ?_); rintro _ _ ⟨b1, t1, rfl, rfl⟩) | ((with_reducible refine sw_call L2 ?_); rintro _ _ ⟨b2, t2, rfl, rfl⟩) | ((with_reducible refine sw_call L3 ?_); rintro _ _ ⟨b3, t3, rfl, rfl⟩) | ((with_reducible refine sw_call L4 ?_); rintro _ _ ⟨b4, t4, rfl, rfl⟩) | with_reducible refine sw_makeSlice (482 - bs.length) (482 - bs.length) ⟨by omega, by omega, by omega, by omega, by omega⟩ fun b5 => ?_ | with_reducible refine sg_back ?_ | fail))
        refine sg_two 12 17 rfl rfl (by kernel_rfl) rfl ?g4a ?g4b
        case' g4a =>
          all_goals (repeat' (first | with_reducible refine sw_in (by omega) ?_ | with_reducible (first | refine go1 ?_ | refine sct ?_ | refine scf ?_ | refine sgr ?_) | ((with_reducible refine sw_call L1 ?_); rintro _ _ ⟨b1, t1, rfl, rfl⟩) | ((with_reducible refine sw_call L2 ?_); rintro _ _ ⟨b2, t2, rfl, rfl⟩) | ((with_reducible refine sw_call L3 ?_); rintro _ _ ⟨b3, t3, rfl, rfl⟩) | ((with_reducible refine sw_call L4 ?_); rintro _ _ ⟨b4, t4, rfl, rfl⟩) | with_reducible refine sw_makeSlice (482 - bs.length) (482 - bs.length) ⟨by omega, by omega, by omega, by omega, by omega⟩ fun b5 => ?_ | with_reducible refine sg_back ?_ | fail))
          all_goals (refine sg_one 17 rfl (by kernel_rfl) rfl ?_)
          all_goals (repeat' (first | with_reducible refine sw_in (by omega) ?_ | with_reducible (first | refine go1 ?_ | refine sct ?_ | refine scf ?_ | refine sgr ?_) | ((with_reducible refine sw_call L1 ?_); rintro _ _ ⟨b1, t1, rfl, rfl⟩) | ((with_reducible refine sw_call L2 ?_); rintro _ _ ⟨b2, t2, rfl, rfl⟩) | ((with_reducible refine sw_call L3 ?_); rintro _ _ ⟨b3, t3, rfl, rfl⟩) | ((with_reducible refine sw_call L4 ?_); rintro _ _ ⟨b4, t4, rfl, rfl⟩) | with_reducible refine sw_makeSlice (482 - bs.length) (482 - bs.length) ⟨by omega, by omega, by omega, by omega, by omega⟩ fun b5 => ?_ | with_reducible refine sg_back ?_ | fail))
          all_goals (first | refine sg_take 18 hcalm rfl (by kernel_rfl) (by kernel_rfl) (by kernel_rfl) (h := runop_buildRA [.slice (some ⟨b1, 0, none⟩) 8 (8 + t1.length), .slice (some ⟨b2, 0, none⟩) 8 (8 + t2.length), .slice (some ⟨b3, 0, none⟩) 8 (8 + t3.length), .slice (some ⟨b4, 0, none⟩) 2 (2 + t4.length), .slice a bs.length c, .slice (some ⟨b5, 0, none⟩) (482 - bs.length) (482 - bs.length)] (by kernel_rfl)) ?_ | refine sg_take 18 hcalm rfl (by kernel_rfl) (by kernel_rfl) (by kernel_rfl) ?_)
          all_goals (refine sg_done (by kernel_rfl) rfl ?_)
        case' g4b =>
          all_goals (repeat' (first | with_reducible refine sw_in (by omega) ?_ | with_reducible (first | refine go1 ?_ | refine sct ?_ | refine scf ?_ | refine sgr ?_) | ((with_reducible refine sw_call L1 ?_); rintro _ _ ⟨b1, t1, rfl, rfl⟩) | ((with_reducible refine sw_call L2 ?_); rintro _ _ ⟨b2, t2, rfl, rfl⟩) | ((with_reducible refine sw_call L3 ?_); rintro _ _ ⟨b3, t3, rfl, rfl⟩) | ((with_reducible refine sw_call L4 ?_); rintro _ _ ⟨b4, t4, rfl, rfl⟩) | with_reducible refine sw_makeSlice (482 - bs.length) (482 - bs.length) ⟨by omega, by omega, by omega, by omega, by omega⟩ fun b5 => ?_ | with_reducible refine sg_back ?_ | fail))
          all_goals (refine sg_one 12 rfl (by kernel_rfl) rfl ?_)
          all_goals (repeat' (first | with_reducible refine sw_in (by omega) ?_ | with_reducible (first | refine go1 ?_ | refine sct ?_ | refine scf ?_ | refine sgr ?_) | ((with_reducible refine sw_call L1 ?_); rintro _ _ ⟨b1, t1, rfl, rfl⟩) | ((with_reducible refine sw_call L2 ?_); rintro _ _ ⟨b2, t2, rfl, rfl⟩) | ((with_reducible refine sw_call L3 ?_); rintro _ _ ⟨b3, t3, rfl, rfl⟩) | ((with_reducible refine sw_call L4 ?_); rintro _ _ ⟨b4, t4, rfl, rfl⟩) | with_reducible refine sw_makeSlice (482 - bs.length) (482 - bs.length) ⟨by omega, by omega, by omega, by omega, by omega⟩ fun b5 => ?_ | with_reducible refine sg_back ?_ | fail))
          all_goals (first | refine sg_take 18 hcalm rfl (by kernel_rfl) (by kernel_rfl) (by kernel_rfl) (h := runop_buildRA [.slice (some ⟨b1, 0, none⟩) 8 (8 + t1.length), .slice (some ⟨b2, 0, none⟩) 8 (8 + t2.length), .slice (some ⟨b3, 0, none⟩) 8 (8 + t3.length), .slice (some ⟨b4, 0, none⟩) 2 (2 + t4.length), .slice a bs.length c, .slice (some ⟨b5, 0, none⟩) (482 - bs.length) (482 - bs.length)] (by kernel_rfl)) ?_ | refine sg_take 18 hcalm rfl (by kernel_rfl) (by kernel_rfl) (by kernel_rfl) ?_)
          all_goals (refine sg_done (by kernel_rfl) rfl ?_)
      case' g3b =>
        all_goals (repeat' (first | with_reducible refine sw_in (by omega) ?_ | with_reducible (first | refine go1 ?_ | refine sct ?_ | refine scf ?_ | refine sgr ?_) | ((with_reducible refine sw_call L1 ?_); rintro _ _ ⟨b1, t1, rfl, rfl⟩) | ((with_reducible refine sw_call L2 ?_); rintro _ _ ⟨b2, t2, rfl, rfl⟩) | ((with_reducible refine sw_call L3 ?_); rintro _ _ ⟨b3, t3, rfl, rfl⟩) | ((with_reducible refine sw_call L4 ?_); rintro _ _ ⟨b4, t4, rfl, rfl⟩) | with_reducible refine sw_makeSlice (482 - bs.length) (482 - bs.length) ⟨by omega, by omega, by omega, by omega, by omega⟩ fun b5 => ?_ | with_reducible refine sg_back ?_ | fail))
        all_goals (refine sg_one 8 rfl (by kernel_rfl) rfl ?_)
        all_goals (repeat' (first | with_reducible refine sw_in (by omega) ?_ | with_reducible (first | refine go1 ?_ | refine sct ?_ | refine scf ?_ | refine sgr ?_) | ((with_reducible refine sw_call L1 ?_); rintro _ _ ⟨b1, t1, rfl, rfl⟩) | ((with_reducible refine sw_call L2 ?_); rintro _ _ ⟨b2, t2, rfl, rfl⟩) | ((with_reducible refine sw_call L3 ?_); rintro _ _ ⟨b3, t3, rfl, rfl⟩) | ((with_reducible refine sw_call L4 ?_); rintro _ _ ⟨b4, t4, rfl, rfl⟩) | with_reducible refine sw_makeSlice (482 - bs.length) (482 - bs.length) ⟨by omega, by omega, by omega, by omega, by omega⟩ fun b5 => ?_ | with_reducible refine sg_back ?_ | fail))
        all_goals (refine sg_one 12 rfl (by kernel_rfl) rfl ?_)
        all_goals (repeat' (first | with_reducible refine sw_in (by omega) ?_ | with_reducible (first | refine go1 ?_ | refine sct ?_ | refine scf ?_ | refine sgr ?_) | ((with_reducible refine sw_call L1 ?_); rintro _ _ ⟨b1, t1, rfl, rfl⟩) | ((with_reducible refine sw_call L2 ?_); rintro _ _ ⟨b2, t2, rfl, rfl⟩) | ((with_reducible refine sw_call L3 ?_); rintro _ _ ⟨b3, t3, rfl, rfl⟩) | ((with_reducible refine sw_call L4 ?_); rintro _ _ ⟨b4, t4, rfl, rfl⟩) | with_reducible refine sw_makeSlice (482 - bs.length) (482 - bs.length) ⟨by omega, by omega, by omega, by omega, by omega⟩ fun b5 => ?_ | with_reducible refine sg_back ?_ | fail))
        all_goals (first | refine sg_take 18 hcalm rfl (by kernel_rfl) (by kernel_rfl) (by kernel_rfl) (h := runop_buildRA [.slice (some ⟨b1, 0, none⟩) 8 (8 + t1.length), .slice (some ⟨b2, 0, none⟩) 8 (8 + t2.length), .slice (some ⟨b3, 0, none⟩) 8 (8 + t3.length), .slice (some ⟨b4, 0, none⟩) 2 (2 + t4.length), .slice a bs.length c, .slice (some ⟨b5, 0, none⟩) (482 - bs.length) (482 - bs.length)] (by kernel_rfl)) ?_ | refine sg_take 18 hcalm rfl (by kernel_rfl) (by kernel_rfl) (by kernel_rfl) ?_)
        all_goals (refine sg_done (by kernel_rfl) rfl ?_)
    case' g2b =>
      all_goals (repeat' (first | with_reducible refine sw_in (by omega) ?_ | with_reducible (first | refine go1 ?_ | refine sct ?_ | refine scf ?_ | refine sgr ?_) | ((with_reducible refine sw_call L1 ?_); rintro _ _ ⟨b1, t1, rfl, rfl⟩) | ((with_reducible refine sw_call L2 ?_); rintro _ _ ⟨b2, t2, rfl, rfl⟩) | ((with_reducible refine sw_call L3 ?_); rintro _ _ ⟨b3, t3, rfl, rfl⟩) | ((with_reducible refine sw_call L4 ?_); rintro _ _ ⟨b4, t4, rfl, rfl⟩) | with_reducible refine sw_makeSlice (482 - bs.length) (482 - bs.length) ⟨by omega, by omega, by omega, by omega, by omega⟩ fun b5 => ?_ | with_reducible refine sg_back ?_ | fail))
      all_goals (refine sg_one 5 rfl (by kernel_rfl) rfl ?_)
      all_goals (repeat' (first | with_reducible refine sw_in (by omega) ?_ | with_reducible (first | refine go1 ?_ | refine sct ?_ | refine scf ?_ | refine sgr ?_) | ((with_reducible refine sw_call L1 ?_); rintro _ _ ⟨b1, t1, rfl, rfl⟩) | ((with_reducible refine sw_call L2 ?_); rintro _ _ ⟨b2, t2, rfl, rfl⟩) | ((with_reducible refine sw_call L3 ?_); rintro _ _ ⟨b3, t3, rfl, rfl⟩) | ((with_reducible refine sw_call L4 ?_); rintro _ _ ⟨b4, t4, rfl, rfl⟩) | with_reducible refine sw_makeSlice (482 - bs.length) (482 - bs.length) ⟨by omega, by omega, by omega, by omega, by omega⟩ fun b5 => ?_ | with_reducible refine sg_back ?_ | fail))
      all_goals (refine sg_one 8 rfl (by kernel_rfl) rfl ?_)
      all_goals (repeat' (first | with_reducible refine sw_in (by omega) ?_ | with_reducible (first | refine go1 ?_ | refine sct ?_ | refine scf ?_ | refine sgr ?_) | ((with_reducible refine sw_call L1 ?_); rintro _ _ ⟨b1, t1, rfl, rfl⟩) | ((with_reducible refine sw_call L2 ?_); rintro _ _ ⟨b2, t2, rfl, rfl⟩) | ((with_reducible refine sw_call L3 ?_); rintro _ _ ⟨b3, t3, rfl, rfl⟩) | ((with_reducible refine sw_call L4 ?_); rintro _ _ ⟨b4, t4, rfl, rfl⟩) | with_reducible refine sw_makeSlice (482 - bs.length) (482 - bs.length) ⟨by omega, by omega, by omega, by omega, by omega⟩ fun b5 => ?_ | with_reducible refine sg_back ?_ | fail))
      all_goals (refine sg_one 12 rfl (by kernel_rfl) rfl ?_)
      all_goals (repeat' (first | with_reducible refine sw_in (by omega) ?_ | with_reducible (first | refine go1 ?_ | refine sct ?_ | refine scf ?_ | refine sgr ?_) | ((with_reducible refine sw_call L1 ?_); rintro _ _ ⟨b1, t1, rfl, rfl⟩) | ((with_reducible refine sw_call L2 ?_); rintro _ _ ⟨b2, t2, rfl, rfl⟩) | ((with_reducible refine sw_call L3 ?_); rintro _ _ ⟨b3, t3, rfl, rfl⟩) | ((with_reducible refine sw_call L4 ?_); rintro _ _ ⟨b4, t4, rfl, rfl⟩) | with_reducible refine sw_makeSlice (482 - bs.length) (482 - bs.length) ⟨by omega, by omega, by omega, by omega, by omega⟩ fun b5 => ?_ | with_reducible refine sg_back ?_ | fail))
      all_goals (first | refine sg_take 18 hcalm rfl (by kernel_rfl) (by kernel_rfl) (by kernel_rfl) (h := runop_buildRA [.slice (some ⟨b1, 0, none⟩) 8 (8 + t1.length), .slice (some ⟨b2, 0, none⟩) 8 (8 + t2.length), .slice (some ⟨b3, 0, none⟩) 8 (8 + t3.length), .slice (some ⟨b4, 0, none⟩) 2 (2 + t4.length), .slice a bs.length c, .slice (some ⟨b5, 0, none⟩) (482 - bs.length) (482 - bs.length)] (by kernel_rfl)) ?_ | refine sg_take 18 hcalm rfl (by kernel_rfl) (by kernel_rfl) (by kernel_rfl) ?_)
      all_goals (refine sg_done (by kernel_rfl) rfl ?_)
  case' g1b =>
    all_goals (repeat' (first | with_reducible refine sw_in (by omega) ?_ | with_reducible (first | refine go1 ?_ | refine sct ?_ | refine scf ?_ | refine sgr ?_) | ((with_reducible refine sw_call L1 ?_); rintro _ _ ⟨b1, t1, rfl, rfl⟩) | ((with_reducible refine sw_call L2 ?_); rintro _ _ ⟨b2, t2, rfl, rfl⟩) | ((with_reducible refine sw_call L3 ?_); rintro _ _ ⟨b3, t3, rfl, rfl⟩) | ((with_reducible refine sw_call L4 ?_); rintro _ _ ⟨b4, t4, rfl, rfl⟩) | with_reducible refine sw_makeSlice (482 - bs.length) (482 - bs.length) ⟨by omega, by omega, by omega, by omega, by omega⟩ fun b5 => ?_ | with_reducible refine sg_back ?_ | fail))
    all_goals (refine sg_one 2 rfl (by kernel_rfl) rfl ?_)
    all_goals (repeat' (first | with_reducible refine sw_in (by omega) ?_ | with_reducible (first | refine go1 ?_ | refine sct ?_ | refine scf ?_ | refine sgr ?_) | ((with_reducible refine sw_call L1 ?_); rintro _ _ ⟨b1, t1, rfl, rfl⟩) | ((with_reducible refine sw_call L2 ?_); rintro _ _ ⟨b2, t2, rfl, rfl⟩) | ((with_reducible refine sw_call L3 ?_); rintro _ _ ⟨b3, t3, rfl, rfl⟩) | ((with_reducible refine sw_call L4 ?_); rintro _ _ ⟨b4, t4, rfl, rfl⟩) | with_reducible refine sw_makeSlice (482 - bs.length) (482 - bs.length) ⟨by omega, by omega, by omega, by omega, by omega⟩ fun b5 => ?_ | with_reducible refine sg_back ?_ | fail))
    all_goals (refine sg_one 5 rfl (by kernel_rfl) rfl ?_)
    all_goals (repeat' (first | with_reducible refine sw_in (by omega) ?_ | with_reducible (first | refine go1 ?_ | refine sct ?_ | refine scf ?_ | refine sgr ?_) | ((with_reducible refine sw_call L1 ?_); rintro _ _ ⟨b1, t1, rfl, rfl⟩) | ((with_reducible refine sw_call L2 ?_); rintro _ _ ⟨b2, t2, rfl, rfl⟩) | ((with_reducible refine sw_call L3 ?_); rintro _ _ ⟨b3, t3, rfl, rfl⟩) | ((with_reducible refine sw_call L4 ?_); rintro _ _ ⟨b4, t4, rfl, rfl⟩) | with_reducible refine sw_makeSlice (482 - bs.length) (482 - bs.length) ⟨by omega, by omega, by omega, by omega, by omega⟩ fun b5 => ?_ | with_reducible refine sg_back ?_ | fail))
    all_goals (refine sg_one 8 rfl (by kernel_rfl) rfl ?_)
    all_goals (repeat' (first | with_reducible refine sw_in (by omega) ?_ | with_reducible (first | refine go1 ?_ | refine sct ?_ | refine scf ?_ | refine sgr ?_) | ((with_reducible refine sw_call L1 ?_); rintro _ _ ⟨b1, t1, rfl, rfl⟩) | ((with_reducible refine sw_call L2 ?_); rintro _ _ ⟨b2, t2, rfl, rfl⟩) | ((with_reducible refine sw_call L3 ?_); rintro _ _ ⟨b3, t3, rfl, rfl⟩) | ((with_reducible refine sw_call L4 ?_); rintro _ _ ⟨b4, t4, rfl, rfl⟩) | with_reducible refine sw_makeSlice (482 - bs.length) (482 - bs.length) ⟨by omega, by omega, by omega, by omega, by omega⟩ fun b5 => ?_ | with_reducible refine sg_back ?_ | fail))
    all_goals (refine sg_one 12 rfl (by kernel_rfl) rfl ?_)
    all_goals (repeat' (first | with_reducible refine sw_in (by omega) ?_ | with_reducible (first | refine go1 ?_ | refine sct ?_ | refine scf ?_ | refine sgr ?_) | ((with_reducible refine sw_call L1 ?_); rintro _ _ ⟨b1, t1, rfl, rfl⟩) | ((with_reducible refine sw_call L2 ?_); rintro _ _ ⟨b2, t2, rfl, rfl⟩) | ((with_reducible refine sw_call L3 ?_); rintro _ _ ⟨b3, t3, rfl, rfl⟩) | ((with_reducible refine sw_call L4 ?_); rintro _ _ ⟨b4, t4, rfl, rfl⟩) | with_reducible refine sw_makeSlice (482 - bs.length) (482 - bs.length) ⟨by omega, by omega, by omega, by omega, by omega⟩ fun b5 => ?_ | with_reducible refine sg_back ?_ | fail))
    all_goals (first | refine sg_take 18 hcalm rfl (by kernel_rfl) (by kernel_rfl) (by kernel_rfl) (h := runop_buildRA [.slice (some ⟨b1, 0, none⟩) 8 (8 + t1.length), .slice (some ⟨b2, 0, none⟩) 8 (8 + t2.length), .slice (some ⟨b3, 0, none⟩) 8 (8 + t3.length), .slice (some ⟨b4, 0, none⟩) 2 (2 + t4.length), .slice a bs.length c, .slice (some ⟨b5, 0, none⟩) (482 - bs.length) (482 - bs.length)] (by kernel_rfl)) ?_ | refine sg_take 18 hcalm rfl (by kernel_rfl) (by kernel_rfl) (by kernel_rfl) ?_)
    all_goals (refine sg_done (by kernel_rfl) rfl ?_)
  all_goals
    repeat' (first | with_reducible (first | refine go1 ?_ | refine sct ?_ | refine scf ?_ | refine sgr ?_) | fail)
    refine sc_loop (α := { x : Nat × Option (Nat × List Value) // x.1 ≤ 6 ∧ (x.2 = none ↔ x.1 = 0) }) (fun x => [(10, bufV ((hdPieces seq run began bs).take x.1.1).flatten.length x.1.2), (49, .agg [Value.slice (some ⟨b1, 0, none⟩) 8 (8 + t1.length), .slice (some ⟨b2, 0, none⟩) 8 (8 + t2.length), .slice (some ⟨b3, 0, none⟩) 8 (8 + t3.length), .slice (some ⟨b4, 0, none⟩) 2 (2 + t4.length), .slice a bs.length c, .slice (some ⟨b5, 0, none⟩) (482 - bs.length) (482 - bs.length)].toArray), (50, .int .i64 (x.1.1 : Int))])
      (fun x => bufR 5 ((hdPieces seq run began bs).take x.1.1).flatten ((b5, pts b5 (.cells (List.replicate (482 - bs.length) (Value.int .u8 0)).toArray 5 (0, 0))) :: (b4, pts b4 (.cells ((le 2 bs.length).map (Value.int .u8) ++ t4).toArray 5 (0, 0))) :: (b3, pts b3 (.cells ((le 8 began).map (Value.int .u8) ++ t3).toArray 5 (0, 0))) :: (b2, pts b2 (.cells ((le 8 run).map (Value.int .u8) ++ t2).toArray 5 (0, 0))) :: (b1, pts b1 (.cells ((le 8 seq).map (Value.int .u8) ++ t1).toArray 5 (0, 0))) :: (k, r) :: F) x.1.2) (fun x => 6 - x.1.1) ⟨(0, none), Nat.zero_le _, by simp⟩ ?_ ?_ ?_
    · repeat' (first | exact says_nil | refine says_cons rfl ?_ | refine says_cons (by simp) ?_)
    · dsimp only [bufR]
      repeat' (first | with_reducible exact Ent.refl _ | with_reducible refine Ent.take_eq ?_ ?_ | rfl | with_reducible refine Ent.oR ?_ | with_reducible refine Ent.trans (Ent.drop _ _) ?_)
    rintro ⟨⟨i, o⟩, hi, hn⟩ e
    (try simp only at hi hn)
    simp only [List.cons_append, List.nil_append]
    repeat' (first | with_reducible (first | refine go1 ?_ | refine sct ?_ | refine scf ?_ | refine sgr ?_) | (with_reducible refine sc_cond (fun h => ?_) (fun h => ?_)) <;> (try (exfalso; first | contradiction | omega | exact h Iff.rfl)) | fail)
    · have hi6 : i < 6 := by omega
      rcases o with _ | ⟨b, t⟩
      · have h0 := hn.1 rfl
        subst h0
        simp only [bufV, bufR]
        refine sw_indexV 0 (Value.slice (some ⟨b1, 0, none⟩) 8 (8 + t1.length)) ⟨rfl, by omega⟩ rfl ?_
        repeat' (first | with_reducible (first | refine go1 ?_ | refine sct ?_ | refine scf ?_ | refine sgr ?_) | fail)
        refine sw_append_nil (src := (le 8 seq).map (Value.int .u8)) src_pts ⟨by simp, by rw [List.length_map, le_len], by simp, by simp⟩ fun b8 t8 => ?_
        repeat' (first | with_reducible refine sw_in (by omega) ?_ | with_reducible (first | refine go1 ?_ | refine sct ?_ | refine scf ?_ | refine sgr ?_) | fail)
        refine sq_round ⟨(1, some (b8, t8)), by omega, by simp⟩ ?_ ?_ ?_
        · show 6 - 1 < 6 - 0
          omega
        · have hz : ((hdPieces seq run began bs).take 1).flatten.length = 8 := by simp [hdPieces, le_len]
          dsimp only [bufV]
          rw [hz]
          repeat' (first | exact says_nil | refine says_cons rfl ?_ | refine says_cons (by simp) ?_)
        · have hz : ((hdPieces seq run began bs).take 1).flatten = le 8 seq := by simp [hdPieces]
          dsimp only [bufR]
          rw [hz]
          repeat' (first | with_reducible exact Ent.refl _ | with_reducible refine Ent.take_eq ?_ ?_ | rfl | with_reducible refine Ent.oR ?_ | with_reducible refine Ent.trans (Ent.drop _ _) ?_)
      · simp only [bufV, bufR]
        have hll := hdPieces_len (seq := seq) (run := run) (began := began) (data := bs) g4
        generalize hQ : ((b, pts b (.cells ((((hdPieces seq run began bs).take i).flatten).map (Value.int .u8) ++ t).toArray 5 (0, 0))) :: (b5, pts b5 (.cells (List.replicate (482 - bs.length) (Value.int .u8 0)).toArray 5 (0, 0))) :: (b4, pts b4 (.cells ((le 2 bs.length).map (Value.int .u8) ++ t4).toArray 5 (0, 0))) :: (b3, pts b3 (.cells ((le 8 began).map (Value.int .u8) ++ t3).toArray 5 (0, 0))) :: (b2, pts b2 (.cells ((le 8 run).map (Value.int .u8) ++ t2).toArray 5 (0, 0))) :: (b1, pts b1 (.cells ((le 8 seq).map (Value.int .u8) ++ t1).toArray 5 (0, 0))) :: (k, r) :: F) = Q
        have hp : ∃ (v : Value) (xs : List Int) (a' : Option Addr) (c' : Nat), [Value.slice (some ⟨b1, 0, none⟩) 8 (8 + t1.length), .slice (some ⟨b2, 0, none⟩) 8 (8 + t2.length), .slice (some ⟨b3, 0, none⟩) 8 (8 + t3.length), .slice (some ⟨b4, 0, none⟩) 2 (2 + t4.length), .slice a bs.length c, .slice (some ⟨b5, 0, none⟩) (482 - bs.length) (482 - bs.length)][i]? = some v ∧ (hdPieces seq run began bs)[i]? = some xs ∧ v = .slice a' xs.length c' ∧
            (∀ w, Sat w0 w Q → ∀ j u, (xs.map (Value.int .u8))[j]? = some u → ∃ ad, a' = some ad ∧ w.cell? (ad.add j) = some u) := by
          subst hQ
          match i, hi6 with
          | 0, _ => exact ⟨_, _, _, _, rfl, rfl, by rw [le_len], src_pts⟩
          | 1, _ => exact ⟨_, _, _, _, rfl, rfl, by rw [le_len], src_pts⟩
          | 2, _ => exact ⟨_, _, _, _, rfl, rfl, by rw [le_len], src_pts⟩
          | 3, _ => exact ⟨_, _, _, _, rfl, rfl, by rw [le_len], src_pts⟩
          | 4, _ => exact ⟨_, _, _, _, rfl, rfl, rfl, fun w hw => hr.sat (k := k) hw⟩
          | 5, _ => exact ⟨_, _, _, _, rfl, rfl, by rw [List.length_replicate], by rw [List.map_replicate]; exact src_pts0⟩
        obtain ⟨v, xs, a', c', p1, p2, rfl, p4⟩ := hp
        have htf := take_flat p2
        have hl2 := hll i
        have hl3 := hll (i + 1)
        rw [htf, List.length_append] at hl3
        refine sw_indexV i (Value.slice a' xs.length c') ⟨rfl, by omega⟩ p1 ?_
        repeat' (first | with_reducible (first | refine go1 ?_ | refine sct ?_ | refine scf ?_ | refine sgr ?_) | fail)
        subst hQ
        refine sw_append (src := xs.map (Value.int .u8)) p4 (one_ints _ _) ⟨by omega, by rw [List.length_append, List.length_map], by rw [List.length_map], by omega, by omega⟩ fun b8 t8 => ?_
        rw [List.take_left' (by rw [List.length_map])]
        repeat' (first | with_reducible refine sw_in (by omega) ?_ | with_reducible (first | refine go1 ?_ | refine sct ?_ | refine scf ?_ | refine sgr ?_) | fail)
        refine sq_round ⟨(i + 1, some (b8, t8)), by omega, by simp⟩ ?_ ?_ ?_
        · show 6 - (i + 1) < 6 - i
          omega
        · dsimp only [bufV]
          rw [htf, List.length_append]
          repeat' (first | exact says_nil | refine says_cons rfl ?_ | refine says_cons (by simp) ?_)
        · dsimp only [bufR]
          rw [htf, List.map_append]
          repeat' (first | with_reducible exact Ent.refl _ | with_reducible refine Ent.take_eq ?_ ?_ | rfl | with_reducible refine Ent.oR ?_ | with_reducible refine Ent.trans (Ent.drop _ _) ?_)
    · have hi6 : i = 6 := by omega
      subst hi6
      rcases o with _ | ⟨b, t⟩
      · have := hn.1 rfl
        omega
      have hfl : ((hdPieces seq run began bs).take 6).flatten = hdRest seq run began bs := by rw [← hdPieces_flat]; rfl
      simp only [bufV, bufR]
      rw [hfl]
      have hhl := hdRest_len (seq := seq) (run := run) (began := began) (data := bs) g4
      have hhb := hdRest_byt (seq := seq) (run := run) (began := began) hb
      have hhs : (hdSec seq run began bs).length = 4 + (hdRest seq run began bs).length := by rw [hdSec_len g4, hhl]
      have had : 0 ≤ adler (hdRest seq run began bs) ∧ adler (hdRest seq run began bs) ≤ 4294967295 := by
        have := adler_in (hdRest seq run began bs)
        omega
      repeat' (first | with_reducible (first | refine go1 ?_ | refine sct ?_ | refine scf ?_ | refine sgr ?_) | fail)
      refine sw_buildSlice [Value.slice (some ⟨b, 0, none⟩) (hdRest seq run began bs).length ((hdRest seq run began bs).length + t.length)] (by omega) rfl fun b9 => ?_
      repeat' (first | with_reducible (first | refine go1 ?_ | refine sct ?_ | refine scf ?_ | refine sgr ?_) | ((with_reducible refine sw_call (cSum_ok b9 b _ _ _ RdB.own hhb (by omega)) ?_); rintro _ _ ⟨rfl, rfl⟩) | ((with_reducible refine sw_call (wLittle_w b _ (adler (hdRest seq run began bs)) (by omega) 4 4 rfl (by omega)) ?_); rintro _ _ ⟨b10, t10, rfl, rfl⟩) | fail)
      refine sw_append (src := (hdRest seq run began bs).map (Value.int .u8)) src_pts (one_ints _ _) ⟨by omega, by rw [List.length_append, List.length_map, le_len], by rw [List.length_map], by omega, by omega⟩ fun b11 t11 => ?_
      rw [List.take_left' (by rw [List.length_map, le_len])]
      rw [← hhs]
      repeat' (first | with_reducible (first | refine go1 ?_ | refine sct ?_ | refine scf ?_ | refine sgr ?_) | fail)
      refine sq_ret2 Try.results12 ?_
      refine ⟨_, .inr ⟨⟨g1, g2, g3, g4⟩, b11, t11, rfl, rfl⟩, ?_⟩
      unfold hdSec
      rw [List.map_append]
      repeat' (first | with_reducible exact Ent.refl _ | with_reducible refine Ent.take_eq ?_ ?_ | rfl | with_reducible refine Ent.oR ?_ | with_reducible refine Ent.trans (Ent.drop _ _) ?_)
theorem wHead_ok (k : Nat) (r : HProp) (seq run began : Int) (v : Value) (bs : List Int) (hv : RdB r v bs) (hb : Byt bs) (hl : bs.length ≤ 140737488355328) :
    Spec Try.prog 12 [.int .i64 seq, .int .i64 run, .int .i64 began, v] [k] [r]
    fun F w Rs' => (¬ HdOk seq run began bs.length ∧ w = .tuple #[.slice none 0 0, .int .i64 1] ∧ Rs' = (k, r) :: F) ∨
      (HdOk seq run began bs.length ∧ ∃ b t, w = .tuple #[.slice (some ⟨b, 0, none⟩) (hdSec seq run began bs).length ((hdSec seq run began bs).length + t.length), .int .i64 0] ∧ Rs' = (b, pts b (.cells ((hdSec seq run began bs).map (Value.int .u8) ++ t).toArray 5 (0, 0))) :: (k, r) :: F) :=
  wHead_bx k r seq run began v bs hv.bx hb hl
end Go.Gsl

namespace Go.Gsl
set_option linter.unusedVariables false
open Go.Proofs

def AllZ (bs : List Int) : Prop := ∀ x ∈ bs, x = 0
instance (bs : List Int) : Decidable (AllZ bs) := inferInstanceAs (Decidable (∀ x ∈ bs, x = 0))
theorem AllZ.snoc {bs : List Int} {i : Nat} {x : Int} (h : AllZ (bs.take i)) (hi : bs[i]? = some x) (hx : x = 0) : AllZ (bs.take (i + 1)) := by
  rw [List.take_add_one, hi, Option.toList_some]
  intro y hy
  rcases List.mem_append.1 hy with h1 | h1
  · exact h y h1
  · rw [List.mem_singleton.1 h1, hx]
theorem wUnhead1_ok (x : Int) : Spec Try.prog 58 [.int .u8 x] [] [] fun F v Rs' => v = .bool (decide (x ≠ 0)) ∧ Rs' = F := by
  refine spec_of Try.func58 rfl Try.ntmps58 rfl ?_
  intro w0 F
  repeat' (first | with_reducible (first | refine go1 ?_ | refine sct ?_ | refine scf ?_ | refine sgr ?_) | fail)
  refine sq_ret1 Try.results58 ?_
  exact ⟨_, ⟨rfl, rfl⟩, Ent.refl _⟩
theorem idxB_ok (k : Nat) (r : HProp) (v : Value) (bs : List Int) (hv : RdB r v bs) (hl : bs.length ≤ 140737488355328) : Spec Try.prog 87 [v, .func (.func 58) #[] #[]] [k] [r]
    fun F w Rs' => ∃ z : Int, w = .int .i64 z ∧ (0 ≤ z ↔ ¬ AllZ bs) ∧ Rs' = (k, r) :: F := by
  refine spec_of Try.func87 rfl Try.ntmps87 rfl ?_
  intro w0 F
  obtain ⟨a, c, rfl, hsome, hc, hr⟩ := hv.gen
  repeat' (first | with_reducible (first | refine go1 ?_ | refine sct ?_ | refine scf ?_ | refine sgr ?_) | fail)
  refine sc_loop (α := { i : Nat // i ≤ bs.length ∧ AllZ (bs.take i) }) (fun i => [(0, .slice a bs.length c), (1, .func (.func 58) #[] #[]), (7, .int .i64 bs.length), (8, .int .i64 (i.1 : Int))])
    (fun _ => (k, r) :: F) (fun i => bs.length - i.1) ⟨0, Nat.zero_le _, by intro x hx; simp at hx⟩ ?_ ?_ ?_
  · repeat' (first | exact says_nil | refine says_cons rfl ?_ | refine says_cons (by simp) ?_)
  · exact Ent.refl _
  rintro ⟨i, hi, hz⟩ e
  (try simp only at hi hz)
  simp only [List.cons_append, List.nil_append]
  repeat' (first | with_reducible (first | refine go1 ?_ | refine sct ?_ | refine scf ?_ | refine sgr ?_) | (with_reducible refine sc_cond (fun h => ?_) (fun h => ?_)) <;> (try (exfalso; first | contradiction | omega | exact h Iff.rfl)) | fail)
  · obtain ⟨b, o, rfl⟩ := hsome (by omega)
    have hi2 : i < bs.length := by omega
    have hri : bs[i]? = some bs[i] := List.getElem?_eq_getElem hi2
    refine sw_index (by omega) ?_
    refine sw_load_rd k i (.int .u8 bs[i]) hr (by rw [List.getElem?_map, hri]; rfl) (by omega) ?_
    generalize hy : bs[i] = y at *
    refine sw_callf (wUnhead1_ok y) ?_
    rintro _ _ ⟨rfl, rfl⟩
    repeat' (first | with_reducible refine sw_in (by omega) ?_ | with_reducible (first | refine go1 ?_ | refine sct ?_ | refine scf ?_ | refine sgr ?_) | (with_reducible refine sc_cond (fun h => ?_) (fun h => ?_)) <;> (try (exfalso; first | contradiction | omega | exact h Iff.rfl)) | fail)
    · refine sq_ret1 Try.results87 ?_
      refine ⟨_, ⟨_, rfl, ⟨fun _ ha => h (ha y (List.mem_of_getElem? hri)), fun _ => by omega⟩, rfl⟩, Ent.refl _⟩
    · refine sq_round ⟨i + 1, by omega, hz.snoc hri (Classical.not_not.1 h)⟩ ?_ ?_ ?_
      · show bs.length - (i + 1) < bs.length - i
        omega
      · repeat' (first | exact says_nil | refine says_cons rfl ?_ | refine says_cons (by simp) ?_)
      · exact Ent.refl _
  · have hil : i = bs.length := by omega
    subst hil
    rw [List.take_length] at hz
    repeat' (first | with_reducible (first | refine go1 ?_ | refine sct ?_ | refine scf ?_ | refine sgr ?_) | fail)
    refine sq_ret1 Try.results87 ?_
    exact ⟨_, ⟨_, rfl, ⟨fun hh => absurd hh (by decide), fun hh => absurd hz hh⟩, rfl⟩, Ent.refl _⟩
theorem contB_ok (k : Nat) (r : HProp) (v : Value) (bs : List Int) (hv : RdB r v bs) (hl : bs.length ≤ 140737488355328) : Spec Try.prog 57 [v, .func (.func 58) #[] #[]] [k] [r]
    fun F w Rs' => w = .bool (decide (¬ AllZ bs)) ∧ Rs' = (k, r) :: F := by
  refine spec_of Try.func57 rfl Try.ntmps57 rfl ?_
  intro w0 F
  repeat' (first | with_reducible (first | refine go1 ?_ | refine sct ?_ | refine scf ?_ | refine sgr ?_) | ((with_reducible refine sw_call (idxB_ok k r v bs hv hl) ?_); rintro _ _ ⟨z, rfl, hz, rfl⟩) | fail)
  refine sq_ret1 Try.results57 ?_
  refine ⟨_, ⟨?_, rfl⟩, Ent.refl _⟩
  congr 1
  by_cases h : AllZ bs
  · simp [h] at hz ⊢
    omega
  · simp [h] at hz ⊢
    omega

/-! what a sector's bytes say -/
def uhSeq (bs : List Int) : Int := ofLE ((bs.drop 4).take 8)
def uhRun (bs : List Int) : Int := ofLE ((bs.drop 12).take 8)
def uhBegan (bs : List Int) : Int := ofLE ((bs.drop 20).take 8)
def uhN (bs : List Int) : Nat := (ofLE ((bs.drop 28).take 2)).toNat
def uhData (bs : List Int) : List Int := (bs.drop 30).take (uhN bs)
def UhOk (bs : List Int) : Prop := HdOk (uhSeq bs) (uhRun bs) (uhBegan bs) (uhN bs) ∧ AllZ (bs.drop (30 + uhN bs))
instance (bs : List Int) : Decidable (UhOk bs) := inferInstanceAs (Decidable (_ ∧ _))
def unhE (bs : List Int) : Int :=
  if bs.length ≠ 512 then 1 else if adler (bs.drop 4) ≠ ofLE (bs.take 4) then 12 else if UhOk bs then 0 else 11
theorem ofLE_u64 {bs : List Int} (hb : Byt bs) (i n : Nat) (hn : n ≤ 8) : 0 ≤ ofLE ((bs.drop i).take n) ∧ ofLE ((bs.drop i).take n) ≤ 18446744073709551615 := by
  have h := ofLE_in (hb.sub i n)
  have h2 : ((bs.drop i).take n).length ≤ 8 := by rw [List.length_take]; omega
  have h3 : 256 ^ ((bs.drop i).take n).length ≤ 256 ^ 8 := Nat.pow_le_pow_right (by omega) h2
  omega
theorem ofLE_u16 {bs : List Int} (hb : Byt bs) (i : Nat) : 0 ≤ ofLE ((bs.drop i).take 2) ∧ ofLE ((bs.drop i).take 2) ≤ 65535 := by
  have h := ofLE_in (hb.sub i 2)
  have h2 : ((bs.drop i).take 2).length ≤ 2 := by rw [List.length_take]; omega
  have h3 : 256 ^ ((bs.drop i).take 2).length ≤ 256 ^ 2 := Nat.pow_le_pow_right (by omega) h2
  omega
/-- 64 bits with a sign -/
theorem stamp_wrap {x : Int} (h : 0 ≤ x ∧ x ≤ 18446744073709551615) : Stamp (IntKind.i64.wrap x) 0 ↔ Stamp x 0 := by
  show (0 ≤ _ ∧ _) ↔ (0 ≤ _ ∧ _)
  rcases Classical.em (x ≤ 9223372036854775807) with h1 | h1
  · rw [IntWalk.i64_in _ (by omega)]
  · have : IntKind.i64.wrap x = x - 18446744073709551616 := by
      simp [IntKind.wrap, IntKind.bits, IntKind.signed]
      omega
    omega
theorem plc_wrap {x : Int} (h : 0 ≤ x ∧ x ≤ 18446744073709551615) : Plc (IntKind.i64.wrap x) ↔ Plc x := by
  show (0 ≤ _ ∧ _) ↔ (0 ≤ _ ∧ _)
  rcases Classical.em (x ≤ 9223372036854775807) with h1 | h1
  · rw [IntWalk.i64_in _ (by omega)]
  · have : IntKind.i64.wrap x = x - 18446744073709551616 := by
      simp [IntKind.wrap, IntKind.bits, IntKind.signed]
      omega
    omega
end Go.Gsl

namespace Go.Gsl
set_option linter.unusedVariables false
open Go.Proofs

theorem RdB.cut {r : HProp} {b o c : Nat} {bs : List Int} (hc : bs.length ≤ c) (hr : Reads r (some ⟨b, o, none⟩) (bs.map (Value.int .u8))) (l h : Nat) (hlh : l ≤ h ∧ h ≤ bs.length) : RdB r (.slice (some ⟨b, o + l, none⟩) (h - l) (c - l)) ((bs.drop l).take (h - l)) := by
  have h1 := RdB.sub hc hr l (h - l) (by omega)
  have h2 : ((bs.drop l).take (h - l)).length = h - l := by rw [List.length_take, List.length_drop]; omega
  rwa [h2] at h1
theorem RdB.tl {r : HProp} {b o c : Nat} {bs : List Int} (hc : bs.length ≤ c) (hr : Reads r (some ⟨b, o, none⟩) (bs.map (Value.int .u8))) (l : Nat) (hlh : l ≤ bs.length) : RdB r (.slice (some ⟨b, o + l, none⟩) (bs.length - l) (c - l)) (bs.drop l) := by
  have h1 := RdB.cut hc hr l bs.length ⟨hlh, Nat.le_refl _⟩
  rwa [List.take_of_length_le (by rw [List.length_drop]; exact Nat.le_refl _)] at h1
theorem Byt.dr {bs : List Int} (hb : Byt bs) (l : Nat) : Byt (bs.drop l) := fun x hx => hb x (List.mem_of_mem_drop hx)
theorem big_cut (k : Nat) (r : HProp) {b o c : Nat} {bs : List Int} (hc : bs.length ≤ c) (hr : Reads r (some ⟨b, o, none⟩) (bs.map (Value.int .u8))) (hb : Byt bs) (l h : Nat) (hlh : l ≤ h ∧ h ≤ bs.length ∧ h - l ≤ 8) (x : Int) (hx : ofLE ((bs.drop l).take (h - l)) = x) :
    Spec Try.prog 56 [.slice (some ⟨b, o + l, none⟩) (h - l) (c - l)] [k] [r] fun F w Rs' => w = .int .u64 x ∧ Rs' = (k, r) :: F := by
  subst hx
  have h2 : ((bs.drop l).take (h - l)).length = h - l := by rw [List.length_take, List.length_drop]; omega
  exact wBig_ok k r _ _ (RdB.cut hc hr l h (by omega)) (hb.sub _ _) (by omega)

theorem wUnhead_bx (k : Nat) (r : HProp) (v : Value) (bs : List Int) (hv : RdBx r v bs) (hb : Byt bs) (hl : bs.length ≤ 140737488355328) : Spec Try.prog 16 [v] [k] [r]
    fun F w Rs' => (unhE bs ≠ 0 ∧ w = .tuple #[.int .i64 0, .int .i64 0, .int .i64 0, .slice none 0 0, .int .i64 (unhE bs)] ∧ Rs' = (k, r) :: F) ∨
      (unhE bs = 0 ∧ ∃ b t, w = .tuple #[.int .i64 (uhSeq bs), .int .i64 (uhRun bs), .int .i64 (uhBegan bs), .slice (some ⟨b, 0, none⟩) (uhData bs).length ((uhData bs).length + t.length), .int .i64 0] ∧ Rs' = (b, pts b (.cells ((uhData bs).map (Value.int .u8) ++ t).toArray 5 (0, 0))) :: (k, r) :: F) := by
  refine spec_of Try.func16 rfl Try.ntmps16 rfl ?_
  intro w0 F
  obtain ⟨a, c, rfl, hc, hsome, hr⟩ := hv
  repeat' (first | with_reducible (first | refine go1 ?_ | refine sct ?_ | refine scf ?_ | refine sgr ?_) | (with_reducible refine sc_cond (fun h => ?_) (fun h => ?_)) <;> (try (exfalso; first | contradiction | omega | exact h Iff.rfl)) | fail)
  · refine sq_ret5 Try.results16 ?_
    have hE : unhE bs = 1 := by unfold unhE; rw [if_pos (by omega)]
    rw [hE]
    exact ⟨_, .inl ⟨by decide, rfl, rfl⟩, Ent.refl _⟩
  have hL : bs.length = 512 := by omega
  obtain ⟨b, o, rfl⟩ := hsome (by omega)
  have B0 := big_cut k r hc hr hb 0 4 (by omega) (ofLE (bs.take 4)) rfl
  refine sc_lin ([(k, r)]) (llp 0 (llp 1 (llp 5 (llp 6 (lle 2 (lle 3 (llp 4 (lle 7 (llp 8 ll0))))))))) (by kernel_rfl) rfl (by kernel_rfl) ?_
  all_goals refine go1l ?_
  all_goals refine sl_take (h := runop_slice 4 bs.length c (o + 4) (by omega) ⟨rfl, rfl, rfl, by split <;> omega⟩) ?_
  all_goals refine go1l ?_
  all_goals refine sl_take (h := runop_slice 0 4 c (o + 0) (by omega) ⟨rfl, rfl, rfl, by split <;> omega⟩) ?_
  all_goals refine sl_eff ?_
  all_goals (repeat' (first | with_reducible (first | refine go1 ?_ | refine sct ?_ | refine scf ?_ | refine sgr ?_) | with_reducible refine sw_buildSlice [Value.slice (some ⟨b, o + 4, none⟩) (bs.length - 4) (c - 4)] (by omega) rfl fun b9 => ?_ | ((with_reducible refine sw_call (cSum_ok b9 k r _ (bs.drop 4) (RdB.tl hc hr 4 (by omega)) (hb.dr 4) (by rw [List.length_drop]; omega)) ?_); rintro _ _ ⟨rfl, rfl⟩) | ((with_reducible refine sw_call B0 ?_); rintro _ _ ⟨rfl, rfl⟩) | with_reducible refine sl_back ?_ | fail))
  all_goals refine sl_eff ?_
  all_goals (repeat' (first | with_reducible (first | refine go1 ?_ | refine sct ?_ | refine scf ?_ | refine sgr ?_) | with_reducible refine sw_buildSlice [Value.slice (some ⟨b, o + 4, none⟩) (bs.length - 4) (c - 4)] (by omega) rfl fun b9 => ?_ | ((with_reducible refine sw_call (cSum_ok b9 k r _ (bs.drop 4) (RdB.tl hc hr 4 (by omega)) (hb.dr 4) (by rw [List.length_drop]; omega)) ?_); rintro _ _ ⟨rfl, rfl⟩) | ((with_reducible refine sw_call B0 ?_); rintro _ _ ⟨rfl, rfl⟩) | with_reducible refine sl_back ?_ | fail))
  all_goals (first | refine sl_in (by omega) ?_ | refine go1l ?_)
  all_goals refine sl_eff ?_
  all_goals (repeat' (first | with_reducible (first | refine go1 ?_ | refine sct ?_ | refine scf ?_ | refine sgr ?_) | with_reducible refine sw_buildSlice [Value.slice (some ⟨b, o + 4, none⟩) (bs.length - 4) (c - 4)] (by omega) rfl fun b9 => ?_ | ((with_reducible refine sw_call (cSum_ok b9 k r _ (bs.drop 4) (RdB.tl hc hr 4 (by omega)) (hb.dr 4) (by rw [List.length_drop]; omega)) ?_); rintro _ _ ⟨rfl, rfl⟩) | ((with_reducible refine sw_call B0 ?_); rintro _ _ ⟨rfl, rfl⟩) | with_reducible refine sl_back ?_ | fail))
  all_goals refine go1l ?_
  all_goals refine sl_done ?_
  all_goals (try simp only [List.append_eq, List.cons_append, List.nil_append])
  have hw := ofLE_u64 hb 0 4 (by omega)
  rw [List.drop_zero] at hw
  have ha := adler_in (bs.drop 4)
  rw [wrap_u64 (by omega)]
  repeat' (first | with_reducible (first | refine go1 ?_ | refine sct ?_ | refine scf ?_ | refine sgr ?_) | (with_reducible refine sc_cond (fun h => ?_) (fun h => ?_)) <;> (try (exfalso; first | contradiction | omega | exact h Iff.rfl)) | fail)
  · refine sq_ret5 Try.results16 ?_
    have hE : unhE bs = 12 := by unfold unhE; rw [if_neg (by omega), if_pos h]
    rw [hE]
    refine ⟨_, .inl ⟨by decide, rfl, rfl⟩, ?_⟩
    repeat' (first | with_reducible exact Ent.refl _ | with_reducible refine Ent.take_eq ?_ ?_ | rfl | with_reducible refine Ent.oR ?_ | with_reducible refine Ent.trans (Ent.drop _ _) ?_)
  have B1 := big_cut k r hc hr hb 4 12 (by omega) (uhSeq bs) rfl
  have B2 := big_cut k r hc hr hb 12 20 (by omega) (uhRun bs) rfl
  have B3 := big_cut k r hc hr hb 20 28 (by omega) (uhBegan bs) rfl
  have B4 := big_cut k r hc hr hb 28 30 (by omega) (ofLE ((bs.drop 28).take 2)) rfl
  have u1 := ofLE_u64 hb 4 8 (by omega)
  have u2 := ofLE_u64 hb 12 8 (by omega)
  have u3 := ofLE_u64 hb 20 8 (by omega)
  have u4 := ofLE_u16 hb 28
  have hn : ofLE ((bs.drop 28).take 2) = (uhN bs : Int) := by
    unfold uhN
    omega
  refine sc_lin ([(k, r)]) (llp 0 (llp 1 (llp 4 (llp 5 (llp 8 (llp 9 (llp 12 (llp 13 (lle 2 (llp 3 (lle 6 (llp 7 (lle 10 (llp 11 (lle 14 (llp 15 (llp 16 (llp 17 (llp 18 (llp 19 ll0)))))))))))))))))))) (by kernel_rfl) rfl (by kernel_rfl) ?_
  all_goals refine go1l ?_
  all_goals refine sl_take (h := runop_slice 4 12 c (o + 4) (by omega) ⟨rfl, rfl, rfl, by split <;> omega⟩) ?_
  all_goals refine go1l ?_
  all_goals refine sl_take (h := runop_slice 12 20 c (o + 12) (by omega) ⟨rfl, rfl, rfl, by split <;> omega⟩) ?_
  all_goals refine go1l ?_
  all_goals refine sl_take (h := runop_slice 20 28 c (o + 20) (by omega) ⟨rfl, rfl, rfl, by split <;> omega⟩) ?_
  all_goals refine go1l ?_
  all_goals refine sl_take (h := runop_slice 28 30 c (o + 28) (by omega) ⟨rfl, rfl, rfl, by split <;> omega⟩) ?_
  all_goals refine sl_eff ?_
  all_goals (repeat' (first | with_reducible (first | refine go1 ?_ | refine sct ?_ | refine scf ?_ | refine sgr ?_) | ((with_reducible refine sw_call B1 ?_); rintro _ _ ⟨rfl, rfl⟩) | ((with_reducible refine sw_call B2 ?_); rintro _ _ ⟨rfl, rfl⟩) | ((with_reducible refine sw_call B3 ?_); rintro _ _ ⟨rfl, rfl⟩) | ((with_reducible refine sw_call B4 ?_); rintro _ _ ⟨rfl, rfl⟩) | with_reducible refine sl_back ?_ | fail))
  all_goals (first | refine sl_in (by omega) ?_ | refine go1l ?_)
  all_goals refine sl_eff ?_
  all_goals (repeat' (first | with_reducible (first | refine go1 ?_ | refine sct ?_ | refine scf ?_ | refine sgr ?_) | ((with_reducible refine sw_call B1 ?_); rintro _ _ ⟨rfl, rfl⟩) | ((with_reducible refine sw_call B2 ?_); rintro _ _ ⟨rfl, rfl⟩) | ((with_reducible refine sw_call B3 ?_); rintro _ _ ⟨rfl, rfl⟩) | ((with_reducible refine sw_call B4 ?_); rintro _ _ ⟨rfl, rfl⟩) | with_reducible refine sl_back ?_ | fail))
  all_goals (first | refine sl_in (by omega) ?_ | refine go1l ?_)
  all_goals refine sl_eff ?_
  all_goals (repeat' (first | with_reducible (first | refine go1 ?_ | refine sct ?_ | refine scf ?_ | refine sgr ?_) | ((with_reducible refine sw_call B1 ?_); rintro _ _ ⟨rfl, rfl⟩) | ((with_reducible refine sw_call B2 ?_); rintro _ _ ⟨rfl, rfl⟩) | ((with_reducible refine sw_call B3 ?_); rintro _ _ ⟨rfl, rfl⟩) | ((with_reducible refine sw_call B4 ?_); rintro _ _ ⟨rfl, rfl⟩) | with_reducible refine sl_back ?_ | fail))
  all_goals (first | refine sl_in (by omega) ?_ | refine go1l ?_)
  all_goals refine sl_eff ?_
  all_goals (repeat' (first | with_reducible (first | refine go1 ?_ | refine sct ?_ | refine scf ?_ | refine sgr ?_) | ((with_reducible refine sw_call B1 ?_); rintro _ _ ⟨rfl, rfl⟩) | ((with_reducible refine sw_call B2 ?_); rintro _ _ ⟨rfl, rfl⟩) | ((with_reducible refine sw_call B3 ?_); rintro _ _ ⟨rfl, rfl⟩) | ((with_reducible refine sw_call B4 ?_); rintro _ _ ⟨rfl, rfl⟩) | with_reducible refine sl_back ?_ | fail))
  all_goals (first | refine sl_in (by omega) ?_ | refine go1l ?_)
  all_goals (iterate 4 refine go1l ?_)
  all_goals refine sl_done ?_
  all_goals (try simp only [List.append_eq, List.cons_append, List.nil_append])
  rw [hn]
  have hne : ¬ adler (bs.drop 4) ≠ ofLE (bs.take 4) := by assumption
  have hE0 : unhE bs = if UhOk bs then 0 else 11 := by
    unfold unhE
    rw [if_neg (by omega), if_neg hne]
  rcases Classical.em (HdOk (uhSeq bs) (uhRun bs) (uhBegan bs) (uhN bs)) with hH | hH
  rotate_left
  · have hE : unhE bs = 11 := by rw [hE0, if_neg (fun hx => hH hx.1)]
    have S1 : Spec Try.prog 49 [.int .i64 (IntKind.i64.wrap (uhSeq bs))] [] [] fun F v Rs' => v = .bool (decide (Stamp (uhSeq bs) 0)) ∧ Rs' = F := by
      rw [show decide (Stamp (uhSeq bs) 0) = decide (Stamp (IntKind.i64.wrap (uhSeq bs)) 0) from decide_eq_decide.2 (stamp_wrap u1).symm]
      exact wStamp_ok _
    have S2 : Spec Try.prog 49 [.int .i64 (IntKind.i64.wrap (uhRun bs))] [] [] fun F v Rs' => v = .bool (decide (Stamp (uhRun bs) 0)) ∧ Rs' = F := by
      rw [show decide (Stamp (uhRun bs) 0) = decide (Stamp (IntKind.i64.wrap (uhRun bs)) 0) from decide_eq_decide.2 (stamp_wrap u2).symm]
      exact wStamp_ok _
    have S3 : Spec Try.prog 50 [.int .i64 (IntKind.i64.wrap (uhBegan bs))] [] [] fun F v Rs' => v = .bool (decide (Plc (uhBegan bs))) ∧ Rs' = F := by
      rw [show decide (Plc (uhBegan bs)) = decide (Plc (IntKind.i64.wrap (uhBegan bs))) from decide_eq_decide.2 (plc_wrap u3).symm]
      exact wPlace0_ok _
    repeat' (first | with_reducible (first | refine go1 ?_ | refine sct ?_ | refine scf ?_ | refine sgr ?_) | with_reducible refine sw_guard_skip_u ?_ | ((with_reducible refine sw_call S1 ?_); rintro _ _ ⟨rfl, rfl⟩) | ((with_reducible refine sw_call S2 ?_); rintro _ _ ⟨rfl, rfl⟩) | ((with_reducible refine sw_call S3 ?_); rintro _ _ ⟨rfl, rfl⟩) | (with_reducible refine sw_guard_split (fun h => ?_) (fun h => ?_)) <;> (try (exfalso; first | contradiction | omega | exact h Iff.rfl)) | (with_reducible refine sc_cond (fun h => ?_) (fun h => ?_)) <;> (try (exfalso; first | contradiction | omega | exact h Iff.rfl)) | (with_reducible refine sw_pick (fun h => ?_) (fun h => ?_)) <;> (try (exfalso; first | contradiction | omega | exact h Iff.rfl)) | fail)
    all_goals first
      | (rw [hE]; refine sq_ret5 Try.results16 ?_; refine ⟨_, .inl ⟨by decide, rfl, rfl⟩, ?_⟩; repeat' (first | with_reducible exact Ent.refl _ | with_reducible refine Ent.take_eq ?_ ?_ | rfl | with_reducible refine Ent.oR ?_ | with_reducible refine Ent.trans (Ent.drop _ _) ?_))
      | (exfalso; exact hH ⟨Classical.not_not.1 (by assumption), Classical.not_not.1 (by assumption), Classical.not_not.1 (by assumption), by omega⟩)
  obtain ⟨g1, g2, g3, g4⟩ := hH
  have g1' : 0 ≤ uhSeq bs ∧ uhSeq bs ≤ 1099511627776 := g1
  have g2' : 0 ≤ uhRun bs ∧ uhRun bs ≤ 1099511627776 := g2
  have g3' : 0 ≤ uhBegan bs ∧ uhBegan bs ≤ 529964604588032 := g3
  rw [IntWalk.i64_in (uhSeq bs) (by omega), IntWalk.i64_in (uhRun bs) (by omega), IntWalk.i64_in (uhBegan bs) (by omega)]
  repeat' (first | with_reducible refine sw_in (by omega) ?_ | with_reducible (first | refine go1 ?_ | refine sct ?_ | refine scf ?_ | refine sgr ?_) | with_reducible refine sw_guard_skip_u ?_ | ((with_reducible refine sw_call (wStamp_ok _) ?_); rintro _ _ ⟨rfl, rfl⟩) | ((with_reducible refine sw_call (wPlace0_ok _) ?_); rintro _ _ ⟨rfl, rfl⟩) | (with_reducible refine sw_guard_split (fun h => ?_) (fun h => ?_)) <;> (try (exfalso; first | contradiction | omega | exact h Iff.rfl)) | (with_reducible refine sc_cond (fun h => ?_) (fun h => ?_)) <;> (try (exfalso; first | contradiction | omega | exact h Iff.rfl)) | (with_reducible refine sw_pick (fun h => ?_) (fun h => ?_)) <;> (try (exfalso; first | contradiction | omega | exact h Iff.rfl)) | fail)
  refine sw_slice (30 + uhN bs) bs.length c (if c = 30 + uhN bs then o else o + (30 + uhN bs)) (by omega) ⟨by omega, rfl, rfl, rfl⟩ ?_
  repeat' (first | with_reducible refine sw_in (by omega) ?_ | with_reducible (first | refine go1 ?_ | refine sct ?_ | refine scf ?_ | refine sgr ?_) | with_reducible refine sw_guard_skip_u ?_ | ((with_reducible refine sw_call (contB_ok k r _ (bs.drop (30 + uhN bs)) (RdB.tail hc hr (30 + uhN bs) (by omega)) (by rw [List.length_drop]; omega)) ?_); rintro _ _ ⟨rfl, rfl⟩) | (with_reducible refine sw_guard_split (fun h => ?_) (fun h => ?_)) <;> (try (exfalso; first | contradiction | omega | exact h Iff.rfl)) | (with_reducible refine sc_cond (fun h => ?_) (fun h => ?_)) <;> (try (exfalso; first | contradiction | omega | exact h Iff.rfl)) | (with_reducible refine sw_pick (fun h => ?_) (fun h => ?_)) <;> (try (exfalso; first | contradiction | omega | exact h Iff.rfl)) | fail)
  · have hE : unhE bs = 11 := by rw [hE0, if_neg (fun hx => absurd hx.2 h)]
    rw [hE]
    refine sq_ret5 Try.results16 ?_
    refine ⟨_, .inl ⟨by decide, rfl, rfl⟩, ?_⟩
    repeat' (first | with_reducible exact Ent.refl _ | with_reducible refine Ent.take_eq ?_ ?_ | rfl | with_reducible refine Ent.oR ?_ | with_reducible refine Ent.trans (Ent.drop _ _) ?_)
  have hE : unhE bs = 0 := by rw [hE0, if_pos ⟨⟨g1, g2, g3, g4⟩, Classical.not_not.1 h⟩]
  rw [hE]
  repeat' (first | with_reducible refine sw_in (by omega) ?_ | with_reducible (first | refine go1 ?_ | refine sct ?_ | refine scf ?_ | refine sgr ?_) | with_reducible refine sw_guard_skip_u ?_ | fail)
  refine sw_slice 30 (30 + uhN bs) c (o + 30) (by omega) ⟨rfl, by omega, rfl, by split <;> omega⟩ ?_
  have hsub := RdB.sub hc hr 30 (uhN bs) (by omega)
  have hln : ((bs.drop 30).take (uhN bs)).length = uhN bs := by rw [List.length_take, List.length_drop]; omega
  have e30 : 30 + uhN bs - 30 = ((bs.drop 30).take (uhN bs)).length := by omega
  rw [e30]
  obtain ⟨a2, c2, ha2, hs2, hc2, hr2⟩ := hsub.gen
  cases ha2
  repeat' (first | with_reducible (first | refine go1 ?_ | refine sct ?_ | refine scf ?_ | refine sgr ?_) | fail)
  refine sw_call (clB_ok k r _ ((bs.drop 30).take (uhN bs)).length (c - 30) (((bs.drop 30).take (uhN bs)).map (Value.int .u8)) hr2 (one_ints _ _) (by rw [List.length_map]) (by omega)) ?_
  rintro _ _ (⟨h0, _⟩ | ⟨_, b3, t3, rfl, rfl⟩)
  · cases h0
  repeat' (first | with_reducible (first | refine go1 ?_ | refine sct ?_ | refine scf ?_ | refine sgr ?_) | fail)
  refine sq_ret5 Try.results16 ?_
  refine ⟨_, .inr ⟨rfl, b3, t3, rfl, rfl⟩, ?_⟩
  unfold uhData
  repeat' (first | with_reducible exact Ent.refl _ | with_reducible refine Ent.take_eq ?_ ?_ | rfl | with_reducible refine Ent.oR ?_ | with_reducible refine Ent.trans (Ent.drop _ _) ?_)
theorem wUnhead_ok (k : Nat) (r : HProp) (v : Value) (bs : List Int) (hv : RdB r v bs) (hb : Byt bs) (hl : bs.length ≤ 140737488355328) : Spec Try.prog 16 [v] [k] [r]
    fun F w Rs' => (unhE bs ≠ 0 ∧ w = .tuple #[.int .i64 0, .int .i64 0, .int .i64 0, .slice none 0 0, .int .i64 (unhE bs)] ∧ Rs' = (k, r) :: F) ∨
      (unhE bs = 0 ∧ ∃ b t, w = .tuple #[.int .i64 (uhSeq bs), .int .i64 (uhRun bs), .int .i64 (uhBegan bs), .slice (some ⟨b, 0, none⟩) (uhData bs).length ((uhData bs).length + t.length), .int .i64 0] ∧ Rs' = (b, pts b (.cells ((uhData bs).map (Value.int .u8) ++ t).toArray 5 (0, 0))) :: (k, r) :: F) :=
  wUnhead_bx k r v bs hv.bx hb hl
end Go.Gsl

namespace Go.Gsl
set_option linter.unusedVariables false
open Go.Proofs

/-- a sector that counts, by itself -/
structure Fnd where
  ok : Bool
  seq : Int
  run : Int
  began : Int
  data : List Int
def Fnd.of (bs : List Int) : Fnd := if unhE bs = 0 then ⟨true, uhSeq bs, uhRun bs, uhBegan bs, uhData bs⟩ else ⟨false, 0, 0, 0, []⟩
def fcs (m : Fnd × Value) : List Value := [.bool m.1.ok, .int .i64 m.1.seq, .int .i64 m.1.run, .int .i64 m.1.began, m.2]

/-- a row that lies for ever, or none -/
def SecN (v : Value) (xs : List Int) : HProp := fun h => (v = .slice none 0 0 ∧ xs = []) ∨ Sec v xs h
theorem SecN.one {v : Value} {xs : List Int} {h : Hp} (hs : SecN v xs h) : v.oneCell' = true := by
  rcases hs with ⟨rfl, _⟩ | ⟨_, _, rfl, _⟩ <;> rfl
theorem SecN.fp {v : Value} {xs : List Int} {h : Hp} (hs : SecN v xs h) : SecN v xs (fpart h) := by
  rcases hs with h1 | h1
  · exact .inl h1
  · exact .inr h1.fp
/-- rows that lie for ever -/
def Bag (L : List (Value × List Int)) : HProp := fun h => ∀ p ∈ L, SecN p.1 p.2 h
theorem Bag.nil (h : Hp) : Bag [] h := fun _ hp => by cases hp
theorem Bag.add {k b : Nat} {L : List (Value × List Int)} {xs : List Int} {r : List Value} {F : List Res} :
    Ent ((k, Bag L) :: (b, imm b (.cells (xs.map (Value.int .u8) ++ r).toArray 5 (0, 0))) :: F) ((k, Bag (L ++ [(.slice (some ⟨b, 0, none⟩) xs.length (xs.length + r.length), xs)])) :: F) :=
  Ent.join fun x y hd hx hy p hp => by
    rcases List.mem_append.1 hp with h | h
    · rcases hx p h with h1 | h1
      · exact .inl h1
      · exact .inr h1.left
    · rw [List.mem_singleton.1 h]
      exact .inr (Sec.right hd ⟨b, r, rfl, hy⟩)
theorem Bag.addN {k : Nat} {L : List (Value × List Int)} {F : List Res} : Ent ((k, Bag L) :: F) ((k, Bag (L ++ [(.slice none 0 0, [])])) :: F) :=
  Ent.head fun h hb p hp => by
    rcases List.mem_append.1 hp with h1 | h1
    · exact hb p h1
    · rw [List.mem_singleton.1 h1]; exact .inl ⟨rfl, rfl⟩

def fbag (ms : List (Fnd × Value)) : List (Value × List Int) := ms.map fun m => (m.2, m.1.data)
theorem fbag_snoc (ms : List (Fnd × Value)) (m : Fnd × Value) : fbag (ms ++ [m]) = fbag ms ++ [(m.2, m.1.data)] := by unfold fbag; rw [List.map_append]; rfl
def fall (ms : List (Fnd × Value)) : List Value := ms.flatMap fcs
theorem fall_len (ms : List (Fnd × Value)) : (fall ms).length = ms.length * 5 := by
  induction ms with
  | nil => rfl
  | cons m ms ih => unfold fall at ih ⊢; rw [List.flatMap_cons, List.length_append, ih, List.length_cons]; show 5 + _ = _; omega
theorem fall_snoc (ms : List (Fnd × Value)) (m : Fnd × Value) : fall (ms ++ [m]) = fall ms ++ fcs m := by unfold fall; rw [List.flatMap_append]; simp
/-- a row of them: none, or a buffer of its own -/
abbrev fV (n : Nat) (o : Option (Nat × Nat × List Value)) : Value := match o with | none => .slice none 0 0 | some (b, c, _) => .slice (some ⟨b, 0, none⟩) n c
def fG (ms : List (Fnd × Value)) (x : Nat × Nat × List Value) : Res := (x.1, pts x.1 (.cells (fall ms ++ x.2.2).toArray 117 (0, 0)))

def fndOf (s : Dk) (f : Nat) (i : Nat) : Fnd := Fnd.of (s.now ((f : Int) + (i : Int)))

theorem fcs_one {m : Fnd × Value} (h : m.2.oneCell' = true) : ∀ v ∈ fcs m, v.oneCell' = true := by
  intro v hv
  simp only [fcs, List.mem_cons, List.not_mem_nil, or_false] at hv
  rcases hv with rfl | rfl | rfl | rfl | rfl <;> first | rfl | exact h
theorem first_snoc {ms : List (Fnd × Value)} {m : Fnd × Value} {g : Nat → Fnd} (h : ∀ i < ms.length, (ms[i]?).map Prod.fst = some (g i)) (hm : m.1 = g ms.length) : ∀ i < (ms ++ [m]).length, ((ms ++ [m])[i]?).map Prod.fst = some (g i) := by
  intro i hi
  rw [List.length_append, List.length_singleton] at hi
  rcases Nat.lt_or_ge i ms.length with h1 | h1
  · rw [List.getElem?_append_left h1]; exact h i h1
  · have : i = ms.length := by omega
    subst this
    rw [List.getElem?_append_right (Nat.le_refl _), Nat.sub_self]
    show some m.1 = _
    rw [hm]

theorem wScan_ok (p : Nat) (s : Dk) (f n : Nat) (hn : 1 ≤ n ∧ n ≤ 16384 ∧ f ≤ 16384) (hup : ∀ i < n, s.looks ((f : Int) + (i : Int)) = 0) : Spec Try.prog 73 [.pointer (some ⟨p, 0, none⟩), .int .i64 f, .int .i64 n] [p] [DISK p s]
    fun F w Rs' => ∃ b c t ms, ms.length = n ∧ n ≤ c ∧ (∀ i < n, (ms[i]?).map Prod.fst = some (fndOf s f i)) ∧ (fall ms ++ t).length = c * 5 ∧ w = .tuple #[.slice (some ⟨b, 0, none⟩) n c, .int .i64 0] ∧
      Rs' = (b, pts b (.cells (fall ms ++ t).toArray 117 (0, 0))) :: (7001, Bag (fbag ms)) :: (p, DISK p s) :: F := by
  refine spec_of Try.func73 rfl Try.ntmps73 rfl ?_
  intro w0 F
  refine DISK.scwf (p := p) (s := s) fun hwf => ?_
  repeat' (first | with_reducible (first | refine go1 ?_ | refine sct ?_ | refine scf ?_ | refine sgr ?_) | fail)
  refine sc_ent (Ent.dup_take (k := p) (k' := 7001) (r' := Bag (fbag [])) fun _ _ => Bag.nil _) ?_
  refine sc_loop (α := { x : List (Fnd × Value) × Option (Nat × Nat × List Value) // x.1.length ≤ n ∧ (x.2 = none ↔ x.1 = []) ∧ (∀ i < x.1.length, (x.1[i]?).map Prod.fst = some (fndOf s f i)) ∧ (∀ b c t, x.2 = some (b, c, t) → x.1.length ≤ c ∧ (fall x.1 ++ t).length = c * 5) })
    (fun x => [(0, .pointer (some ⟨p, 0, none⟩)), (1, .int .i64 f), (8, fV x.1.1.length x.1.2), (16, .int .i64 n), (17, .int .i64 (x.1.1.length : Int))])
    (fun x => oR (fG x.1.1) ((7001, Bag (fbag x.1.1)) :: (p, DISK p s) :: F) x.1.2) (fun x => n - x.1.1.length) ⟨([], none), Nat.zero_le _, by simp, by simp, by simp⟩ ?_ ?_ ?_
  · repeat' (first | exact says_nil | refine says_cons rfl ?_ | refine says_cons (by simp) ?_)
  · exact Ent.refl _
  rintro ⟨⟨ms, o⟩, h1, h2, h3, h4⟩ e
  (try simp only at h1 h2 h3 h4)
  simp only [List.cons_append, List.nil_append]
  repeat' (first | with_reducible refine sw_in (by omega) ?_ | with_reducible (first | refine go1 ?_ | refine sct ?_ | refine scf ?_ | refine sgr ?_) | (with_reducible refine sc_cond (fun h => ?_) (fun h => ?_)) <;> (try (exfalso; first | contradiction | omega | exact h Iff.rfl)) | fail)
  · have hlt : ms.length < n := by omega
    have hlk := hup ms.length hlt
    have R1 := rd_disk_wf p s hwf ((f : Int) + (ms.length : Int))
    refine sw_call R1 ?_
    rintro _ _ (⟨h0, _⟩ | ⟨_, hby, hlen, b, rfl, rfl⟩)
    · exact absurd hlk h0
    simp only at hby hlen
    repeat' (first | with_reducible refine sw_in (by omega) ?_ | with_reducible (first | refine go1 ?_ | refine sct ?_ | refine scf ?_ | refine sgr ?_) | ((with_reducible refine sw_call (wUnhead_ok b _ _ (s.now ((f : Int) + (ms.length : Int))) RdB.own0 hby (by omega)) ?_); rintro _ _ (⟨he, rfl, rfl⟩ | ⟨he, b2, t2, rfl, rfl⟩)) | (with_reducible refine sc_cond (fun h => ?_) (fun h => ?_)) <;> (try (exfalso; first | contradiction | omega | exact h Iff.rfl)) | fail)
    · have hfo : fndOf s f ms.length = ⟨false, 0, 0, 0, []⟩ := by unfold fndOf Fnd.of; rw [if_neg he]
      rw [decide_eq_false he]
      -- Value.slice none 0 0: the data's slice, (⟨false, 0, 0, 0, []⟩ : Fnd): the found; refine sq_ent (Ent.trans (Ent.take (k := 7001) (r' := Bag _) (fun _ h => h) (Ent.refl _)) Bag.addN) ?_: the bag's step
      refine sw_build (fcs ((⟨false, 0, 0, 0, []⟩ : Fnd), Value.slice none 0 0)) (by kernel_rfl) ?_
      repeat' (first | with_reducible (first | refine go1 ?_ | refine sct ?_ | refine scf ?_ | refine sgr ?_) | fail)
      refine sw_buildSliceN (fcs ((⟨false, 0, 0, 0, []⟩ : Fnd), Value.slice none 0 0)) ⟨by omega, by omega, by omega⟩ (by kernel_rfl) fun b4 => ?_
      have hf1 := first_snoc (m := ((⟨false, 0, 0, 0, []⟩ : Fnd), Value.slice none 0 0)) h3 (by rw [hfo])
      have hone := fcs_one (m := ((⟨false, 0, 0, 0, []⟩ : Fnd), Value.slice none 0 0)) rfl
      rcases o with _ | ⟨b0, c0, t0⟩
      · have hm0 := h2.1 rfl
        subst hm0
        try dsimp only [oR, fG]
        refine sw_appendN_nil (src := fcs ((⟨false, 0, 0, 0, []⟩ : Fnd), Value.slice none 0 0)) src_pts0 (by kernel_rfl) (by omega) ⟨by omega, rfl, by omega, by omega⟩ fun b5 t5 c5 hc5 hl5 => ?_
        repeat' (first | with_reducible refine sw_in (by omega) ?_ | with_reducible (first | refine go1 ?_ | refine sct ?_ | refine scf ?_ | refine sgr ?_) | fail)
        refine sq_ent (Ent.trans (Ent.take (k := 7001) (r' := Bag _) (fun _ h => h) (Ent.refl _)) Bag.addN) ?_
        refine sq_round ⟨([] ++ [((⟨false, 0, 0, 0, []⟩ : Fnd), Value.slice none 0 0)], some (b5, c5, t5)), ?_, ?_, hf1, ?_⟩ ?_ ?_ ?_
        · show 1 ≤ n
          omega
        · simp
        · rintro b c t hh
          cases hh
          exact ⟨hc5, by rw [fall_snoc]; exact hl5⟩
        · show n - 1 < n - 0
          omega
        · repeat' (first | exact says_nil | refine says_cons rfl ?_ | refine says_cons (by simp) ?_)
        · try dsimp only [oR, fG]
          rw [fall_snoc, fbag_snoc]
          show Ent _ ((b5, pts b5 (.cells (fcs ((⟨false, 0, 0, 0, []⟩ : Fnd), Value.slice none 0 0) ++ t5).toArray 117 (0, 0))) :: (7001, Bag (fbag [] ++ [(Value.slice none 0 0, ((⟨false, 0, 0, 0, []⟩ : Fnd)).data)])) :: (p, DISK p s) :: F)
          repeat' (first | with_reducible exact Ent.refl _ | with_reducible refine Ent.take_eq ?_ ?_ | rfl | with_reducible refine Ent.oR ?_ | with_reducible refine Ent.trans (Ent.drop _ _) ?_)
      · obtain ⟨q1, q2⟩ := h4 b0 c0 t0 rfl
        try dsimp only [oR, fG]
        refine sw_appendN (src := fcs ((⟨false, 0, 0, 0, []⟩ : Fnd), Value.slice none 0 0)) src_pts0 hone (by kernel_rfl) (by omega) ⟨q1, q2, rfl, by omega, by omega⟩ fun b5 t5 c5 hc5 hl5 => ?_
        rw [List.take_left' (fall_len ms)] at hl5
        rw [List.take_left' (fall_len ms)]
        repeat' (first | with_reducible refine sw_in (by omega) ?_ | with_reducible (first | refine go1 ?_ | refine sct ?_ | refine scf ?_ | refine sgr ?_) | fail)
        refine sq_ent (Ent.trans (Ent.take (k := 7001) (r' := Bag _) (fun _ h => h) (Ent.refl _)) Bag.addN) ?_
        refine sq_round ⟨(ms ++ [((⟨false, 0, 0, 0, []⟩ : Fnd), Value.slice none 0 0)], some (b5, c5, t5)), ?_, ?_, hf1, ?_⟩ ?_ ?_ ?_
        · rw [List.length_append, List.length_singleton]; omega
        · simp
        · rintro b c t hh
          cases hh
          exact ⟨by rw [List.length_append, List.length_singleton]; exact hc5, by rw [fall_snoc]; exact hl5⟩
        · show n - (ms ++ [_]).length < n - ms.length
          rw [List.length_append, List.length_singleton]; omega
        · simp only [List.length_append, List.length_singleton]
          repeat' (first | exact says_nil | refine says_cons rfl ?_ | refine says_cons (by simp) ?_)
        · try dsimp only [oR, fG]
          rw [fall_snoc, fbag_snoc]
          show Ent _ ((b5, pts b5 (.cells (fall ms ++ fcs ((⟨false, 0, 0, 0, []⟩ : Fnd), Value.slice none 0 0) ++ t5).toArray 117 (0, 0))) :: (7001, Bag (fbag ms ++ [(Value.slice none 0 0, ((⟨false, 0, 0, 0, []⟩ : Fnd)).data)])) :: (p, DISK p s) :: F)
          repeat' (first | with_reducible exact Ent.refl _ | with_reducible refine Ent.take_eq ?_ ?_ | rfl | with_reducible refine Ent.oR ?_ | with_reducible refine Ent.trans (Ent.drop _ _) ?_)
    · have hfo : fndOf s f ms.length = ⟨true, uhSeq (s.now ((f : Int) + (ms.length : Int))), uhRun (s.now ((f : Int) + (ms.length : Int))), uhBegan (s.now ((f : Int) + (ms.length : Int))), uhData (s.now ((f : Int) + (ms.length : Int)))⟩ := by unfold fndOf Fnd.of; rw [if_pos he]
      generalize s.now ((f : Int) + (ms.length : Int)) = bs at *
      -- Value.slice (some ⟨b2, 0, none⟩) (uhData bs).length ((uhData bs).length + t2.length): the data's slice, (⟨true, uhSeq bs, uhRun bs, uhBegan bs, uhData bs⟩ : Fnd): the found; refine sq_freeze (b := b2) ?_; refine sq_ent (Ent.trans (Ent.take (k := 7001) (r' := Bag _) (fun _ h => h) (Ent.take (k := b2) (r' := imm b2 _) (fun _ h => h) (Ent.refl _))) Bag.add) ?_: the bag's step
      refine sw_build (fcs ((⟨true, uhSeq bs, uhRun bs, uhBegan bs, uhData bs⟩ : Fnd), Value.slice (some ⟨b2, 0, none⟩) (uhData bs).length ((uhData bs).length + t2.length))) (by kernel_rfl) ?_
      repeat' (first | with_reducible (first | refine go1 ?_ | refine sct ?_ | refine scf ?_ | refine sgr ?_) | fail)
      refine sw_buildSliceN (fcs ((⟨true, uhSeq bs, uhRun bs, uhBegan bs, uhData bs⟩ : Fnd), Value.slice (some ⟨b2, 0, none⟩) (uhData bs).length ((uhData bs).length + t2.length))) ⟨by omega, by omega, by omega⟩ (by kernel_rfl) fun b4 => ?_
      have hf1 := first_snoc (m := ((⟨true, uhSeq bs, uhRun bs, uhBegan bs, uhData bs⟩ : Fnd), Value.slice (some ⟨b2, 0, none⟩) (uhData bs).length ((uhData bs).length + t2.length))) h3 (by rw [hfo])
      have hone := fcs_one (m := ((⟨true, uhSeq bs, uhRun bs, uhBegan bs, uhData bs⟩ : Fnd), Value.slice (some ⟨b2, 0, none⟩) (uhData bs).length ((uhData bs).length + t2.length))) rfl
      rcases o with _ | ⟨b0, c0, t0⟩
      · have hm0 := h2.1 rfl
        subst hm0
        try dsimp only [oR, fG]
        refine sw_appendN_nil (src := fcs ((⟨true, uhSeq bs, uhRun bs, uhBegan bs, uhData bs⟩ : Fnd), Value.slice (some ⟨b2, 0, none⟩) (uhData bs).length ((uhData bs).length + t2.length))) src_pts0 (by kernel_rfl) (by omega) ⟨by omega, rfl, by omega, by omega⟩ fun b5 t5 c5 hc5 hl5 => ?_
        repeat' (first | with_reducible refine sw_in (by omega) ?_ | with_reducible (first | refine go1 ?_ | refine sct ?_ | refine scf ?_ | refine sgr ?_) | fail)
        refine sq_freeze (b := b2) ?_; refine sq_ent (Ent.trans (Ent.take (k := 7001) (r' := Bag _) (fun _ h => h) (Ent.take (k := b2) (r' := imm b2 _) (fun _ h => h) (Ent.refl _))) Bag.add) ?_
        refine sq_round ⟨([] ++ [((⟨true, uhSeq bs, uhRun bs, uhBegan bs, uhData bs⟩ : Fnd), Value.slice (some ⟨b2, 0, none⟩) (uhData bs).length ((uhData bs).length + t2.length))], some (b5, c5, t5)), ?_, ?_, hf1, ?_⟩ ?_ ?_ ?_
        · show 1 ≤ n
          omega
        · simp
        · rintro b c t hh
          cases hh
          exact ⟨hc5, by rw [fall_snoc]; exact hl5⟩
        · show n - 1 < n - 0
          omega
        · repeat' (first | exact says_nil | refine says_cons rfl ?_ | refine says_cons (by simp) ?_)
        · try dsimp only [oR, fG]
          rw [fall_snoc, fbag_snoc]
          show Ent _ ((b5, pts b5 (.cells (fcs ((⟨true, uhSeq bs, uhRun bs, uhBegan bs, uhData bs⟩ : Fnd), Value.slice (some ⟨b2, 0, none⟩) (uhData bs).length ((uhData bs).length + t2.length)) ++ t5).toArray 117 (0, 0))) :: (7001, Bag (fbag [] ++ [(Value.slice (some ⟨b2, 0, none⟩) (uhData bs).length ((uhData bs).length + t2.length), ((⟨true, uhSeq bs, uhRun bs, uhBegan bs, uhData bs⟩ : Fnd)).data)])) :: (p, DISK p s) :: F)
          repeat' (first | with_reducible exact Ent.refl _ | with_reducible refine Ent.take_eq ?_ ?_ | rfl | with_reducible refine Ent.oR ?_ | with_reducible refine Ent.trans (Ent.drop _ _) ?_)
      · obtain ⟨q1, q2⟩ := h4 b0 c0 t0 rfl
        try dsimp only [oR, fG]
        refine sw_appendN (src := fcs ((⟨true, uhSeq bs, uhRun bs, uhBegan bs, uhData bs⟩ : Fnd), Value.slice (some ⟨b2, 0, none⟩) (uhData bs).length ((uhData bs).length + t2.length))) src_pts0 hone (by kernel_rfl) (by omega) ⟨q1, q2, rfl, by omega, by omega⟩ fun b5 t5 c5 hc5 hl5 => ?_
        rw [List.take_left' (fall_len ms)] at hl5
        rw [List.take_left' (fall_len ms)]
        repeat' (first | with_reducible refine sw_in (by omega) ?_ | with_reducible (first | refine go1 ?_ | refine sct ?_ | refine scf ?_ | refine sgr ?_) | fail)
        refine sq_freeze (b := b2) ?_; refine sq_ent (Ent.trans (Ent.take (k := 7001) (r' := Bag _) (fun _ h => h) (Ent.take (k := b2) (r' := imm b2 _) (fun _ h => h) (Ent.refl _))) Bag.add) ?_
        refine sq_round ⟨(ms ++ [((⟨true, uhSeq bs, uhRun bs, uhBegan bs, uhData bs⟩ : Fnd), Value.slice (some ⟨b2, 0, none⟩) (uhData bs).length ((uhData bs).length + t2.length))], some (b5, c5, t5)), ?_, ?_, hf1, ?_⟩ ?_ ?_ ?_
        · rw [List.length_append, List.length_singleton]; omega
        · simp
        · rintro b c t hh
          cases hh
          exact ⟨by rw [List.length_append, List.length_singleton]; exact hc5, by rw [fall_snoc]; exact hl5⟩
        · show n - (ms ++ [_]).length < n - ms.length
          rw [List.length_append, List.length_singleton]; omega
        · simp only [List.length_append, List.length_singleton]
          repeat' (first | exact says_nil | refine says_cons rfl ?_ | refine says_cons (by simp) ?_)
        · try dsimp only [oR, fG]
          rw [fall_snoc, fbag_snoc]
          show Ent _ ((b5, pts b5 (.cells (fall ms ++ fcs ((⟨true, uhSeq bs, uhRun bs, uhBegan bs, uhData bs⟩ : Fnd), Value.slice (some ⟨b2, 0, none⟩) (uhData bs).length ((uhData bs).length + t2.length)) ++ t5).toArray 117 (0, 0))) :: (7001, Bag (fbag ms ++ [(Value.slice (some ⟨b2, 0, none⟩) (uhData bs).length ((uhData bs).length + t2.length), ((⟨true, uhSeq bs, uhRun bs, uhBegan bs, uhData bs⟩ : Fnd)).data)])) :: (p, DISK p s) :: F)
          repeat' (first | with_reducible exact Ent.refl _ | with_reducible refine Ent.take_eq ?_ ?_ | rfl | with_reducible refine Ent.oR ?_ | with_reducible refine Ent.trans (Ent.drop _ _) ?_)
  · have hl : ms.length = n := by omega
    rcases o with _ | ⟨b0, c0, t0⟩
    · have hm0 := h2.1 rfl
      subst hm0
      simp only [List.length_nil] at hl
      omega
    obtain ⟨q1, q2⟩ := h4 b0 c0 t0 rfl
    subst hl
    try dsimp only [oR, fG]
    repeat' (first | with_reducible (first | refine go1 ?_ | refine sct ?_ | refine scf ?_ | refine sgr ?_) | fail)
    refine sq_ret2 Try.results73 ?_
    exact ⟨_, ⟨b0, c0, t0, ms, rfl, q1, h3, q2, rfl, rfl⟩, Ent.refl _⟩
end Go.Gsl

namespace Go.Gsl
set_option linter.unusedVariables false
open Go.Proofs

/-- does one of them end it? -/
def Fnd.bad (x : Fnd) (q last : Int) : Prop := x.ok = false ∨ x.seq ≠ q ∨ x.run < last
instance (x : Fnd) (q last : Int) : Decidable (x.bad q last) := inferInstanceAs (Decidable (_ ∨ _))
/-- the sectors that follow, from the i-th on -/
def flw (ms : List (Fnd × Value)) (seq : Int) : Nat → Nat → Int → List (Fnd × Value)
  | 0, _, _ => []
  | k + 1, i, last => match ms[((seq + i) % ms.length).toNat]? with
    | none => []
    | some x => if x.1.bad (seq + i) last then [] else x :: (if x.1.data.length < 482 then [] else flw ms seq k (i + 1) x.1.run)

theorem fall_at {ms : List (Fnd × Value)} {i : Nat} {x : Fnd × Value} {t : List Value} (h : ms[i]? = some x) : ((fall ms ++ t).drop (i * 5)).take 5 = fcs x := by
  induction ms generalizing i with
  | nil => simp at h
  | cons m ms ih =>
    unfold fall at ih ⊢
    rw [List.flatMap_cons]
    cases i with
    | zero =>
      simp only [List.getElem?_cons_zero, Option.some.injEq] at h
      subst h
      rfl
    | succ i =>
      rw [List.getElem?_cons_succ] at h
      rw [List.append_assoc, show (i + 1) * 5 = i * 5 + 5 by omega]
      exact ih h

abbrev fbx (b n c : Nat) : Obj := .cells [.slice (some ⟨b, 0, none⟩) n c].toArray 113 (0, 0)
abbrev ibx64 (x : Int) : Obj := .cells [.int .i64 x].toArray 2 (0, 0)

set_option maxRecDepth 4000 in
theorem wFollow1_iter (bl bq ba b c : Nat) (t : List Value) (ms : List (Fnd × Value)) (seq last : Int) (hv : ∀ m ∈ ms, ∃ a c', m.2 = .slice a m.1.data.length c') (hn : 1 ≤ ms.length ∧ ms.length ≤ 16384) (hs : Stamp seq 0) :
    IterC2 Try.prog 103 [.pointer (some ⟨bl, 0, none⟩), .pointer (some ⟨bq, 0, none⟩), .pointer (some ⟨ba, 0, none⟩)] [bl, bq, ba, b] [pts bl (fbx b ms.length c), pts bq (ibx64 seq), pts ba (ibx64 last), pts b (.cells (fall ms ++ t).toArray 117 (0, 0))]
      [pts bl (fbx b ms.length c), pts bq (ibx64 seq), hex fun l' => pts ba (ibx64 l'), pts b (.cells (fall ms ++ t).toArray 117 (0, 0))]
      (fun m : Fnd × Value => .agg (fcs m).toArray) (fun pre x => (flw ms seq ms.length 0 last)[pre.length]? = some x ∧ pre = (flw ms seq ms.length 0 last).take pre.length) (fun ys => ys = flw ms seq ms.length 0 last) := by
  intro l J Jx hY
  have hs' : 0 ≤ seq ∧ seq ≤ 1099511627776 := hs
  refine spec_of Try.func103 rfl Try.ntmps103 rfl ?_
  intro w0 F
  repeat' (first | with_reducible (first | refine go1 ?_ | refine sct ?_ | refine scf ?_ | refine sgr ?_) | fail)
  refine sc_loop (α := { x : Nat × Int × List (Fnd × Value) // x.1 ≤ ms.length ∧ flw ms seq ms.length 0 last = x.2.2 ++ flw ms seq (ms.length - x.1) x.1 x.2.1 ∧ x.2.2.length = x.1 }) (fun x => [(0, .func (.yield l) #[] #[]), (1, .pointer (some ⟨bl, 0, none⟩)), (2, .pointer (some ⟨bq, 0, none⟩)), (3, .pointer (some ⟨ba, 0, none⟩)), (8, .int .i64 ms.length), (9, .int .i64 x.1.1)])
    (fun x => (bl, pts bl (fbx b ms.length c)) :: (bq, pts bq (ibx64 seq)) :: (ba, pts ba (ibx64 x.1.2.1)) :: (b, pts b (.cells (fall ms ++ t).toArray 117 (0, 0))) :: (l, J x.1.2.2) :: F) (fun x => ms.length - x.1.1) ⟨(0, last, []), Nat.zero_le _, rfl, rfl⟩ ?_ ?_ ?_
  · repeat' (first | exact says_nil | refine says_cons rfl ?_ | refine says_cons (by simp) ?_)
  · repeat' (first | with_reducible exact Ent.refl _ | with_reducible refine Ent.take_eq ?_ ?_ | rfl | with_reducible refine Ent.oR ?_ | with_reducible refine Ent.trans (Ent.drop _ _) ?_)
  · rintro ⟨⟨i, la, pre⟩, hi, hall, hpre⟩ e
    (try simp only at hi hall hpre)
    simp only [List.cons_append, List.nil_append]
    repeat' (first | with_reducible (first | refine go1 ?_ | refine sct ?_ | refine scf ?_ | refine sgr ?_) | (with_reducible refine sc_cond (fun h => ?_) (fun h => ?_)) <;> (try (exfalso; first | contradiction | omega | exact h Iff.rfl)) | fail)
    · have hlt : i < ms.length := by omega
      obtain ⟨j, hj⟩ : ∃ j, j = ((seq + i) % ms.length).toNat := ⟨_, rfl⟩
      have hmod0 := Int.emod_nonneg (seq + i) (show (ms.length : Int) ≠ 0 by omega)
      have hmod1 := Int.emod_lt_of_pos (seq + i) (show (0 : Int) < ms.length by omega)
      have hjl : j < ms.length := by omega
      have hji : (seq + i) % ms.length = j := by omega
      have hx : ms[j]? = some ms[j] := List.getElem?_eq_getElem hjl
      have hmem : ms[j] ∈ ms := List.getElem_mem hjl
      generalize ms[j] = x at hx hmem
      have hfa := fall_at (t := t) hx
      have hstep : flw ms seq (ms.length - i) i la = if x.1.bad (seq + i) la then [] else x :: (if x.1.data.length < 482 then [] else flw ms seq (ms.length - (i + 1)) (i + 1) x.1.run) := by
        rw [show ms.length - i = (ms.length - (i + 1)) + 1 by omega, flw, ← hj, hx]
      obtain ⟨a, c', hxv⟩ := hv x hmem
      obtain ⟨⟨ok, q, run, began, data⟩, v⟩ := x
      simp only at hxv hstep
      subst hxv
      refine sc_lin ([(bl, pts bl (fbx b ms.length c)), (bq, pts bq (ibx64 seq)), (b, pts b (.cells (fall ms ++ t).toArray 117 (0, 0)))]) (llp 0 (llp 1 (llp 2 (llp 3 (llp 4 (llp 5 (llp 6 (llp 7 (llp 8 (lle 9 (lle 10 ll0))))))))))) (by kernel_rfl) rfl (by kernel_rfl) ?_
      all_goals (iterate 3 refine go1l ?_)
      all_goals (first | refine sl_in (by omega) ?_ | refine go1l ?_)
      all_goals (iterate 2 refine go1l ?_)
      all_goals refine sl_take (h := runop_rem_nn (by omega)) ?_
      all_goals refine sl_take (h := runop_indexN j (by omega)) ?_
      all_goals refine sl_take (h := runop_loadPart [Value.bool ok, .int .i64 q, .int .i64 run, .int .i64 began, .slice a data.length c'] rfl (by rw [Nat.zero_add]; exact hfa)) ?_
      all_goals refine sl_eff ?_
      all_goals (repeat' (first | with_reducible (first | refine go1 ?_ | refine sct ?_ | refine scf ?_ | refine sgr ?_) | with_reducible refine sw_alloc fun b9 => ?_ | with_reducible refine sw_store_agg ?_ | with_reducible refine sl_back ?_ | fail))
      all_goals refine sl_eff ?_
      all_goals (repeat' (first | with_reducible (first | refine go1 ?_ | refine sct ?_ | refine scf ?_ | refine sgr ?_) | with_reducible refine sw_alloc fun b9 => ?_ | with_reducible refine sw_store_agg ?_ | with_reducible refine sl_back ?_ | fail))
      all_goals refine sl_done ?_
      rcases Classical.em ((⟨ok, q, run, began, data⟩ : Fnd).bad (seq + i) la) with hb | hb
      · rw [if_pos hb] at hstep
        have hpx : flw ms seq ms.length 0 last = pre := by rw [hall, hstep, List.append_nil]
        have hfin : ∀ Fx : List Res, Ent Fx ((l, J pre) :: (bl, pts bl (fbx b ms.length c)) :: (bq, pts bq (ibx64 seq)) :: (ba, hex fun l' => pts ba (ibx64 l')) :: (b, pts b (.cells (fall ms ++ t).toArray 117 (0, 0))) :: F) → ∃ Rs', (Value.tuple #[] = Value.tuple #[] ∧ ((∃ xs, xs = flw ms seq ms.length 0 last ∧ Rs' = (l, J xs) :: ([bl, bq, ba, b].zip [pts bl (fbx b ms.length c), pts bq (ibx64 seq), hex fun l' => pts ba (ibx64 l'), pts b (.cells (fall ms ++ t).toArray 117 (0, 0))] ++ F)) ∨ (∃ pre' x, ((flw ms seq ms.length 0 last)[pre'.length]? = some x ∧ pre' = (flw ms seq ms.length 0 last).take pre'.length) ∧ Rs' = (l, Jx (pre' ++ [x])) :: ([bl, bq, ba, b].zip [pts bl (fbx b ms.length c), pts bq (ibx64 seq), hex fun l' => pts ba (ibx64 l'), pts b (.cells (fall ms ++ t).toArray 117 (0, 0))] ++ F)))) ∧ Ent Fx Rs' := fun Fx hE => ⟨_, ⟨rfl, .inl ⟨pre, hpx.symm, rfl⟩⟩, hE⟩
        cases ok with
        | false =>
          repeat' (first | with_reducible refine sw_in (by omega) ?_ | with_reducible (first | refine go1 ?_ | refine sct ?_ | refine scf ?_ | refine sgr ?_) | with_reducible refine sw_guard_skip_u ?_ | (with_reducible refine sw_guard_split (fun h => ?_) (fun h => ?_)) <;> (try (exfalso; first | contradiction | omega | exact h Iff.rfl)) | (with_reducible refine sc_cond (fun h => ?_) (fun h => ?_)) <;> (try (exfalso; first | contradiction | omega | exact h Iff.rfl)) | (with_reducible refine sw_pick (fun h => ?_) (fun h => ?_)) <;> (try (exfalso; first | contradiction | omega | exact h Iff.rfl)) | fail)
          refine sq_ent (Ent.take (k := ba) (r' := hex fun l' => pts ba (ibx64 l')) (fun h hh => ⟨la, hh⟩) (Ent.refl _)) ?_
          refine sq_ret0 Try.results103 ?_
          exact hfin _ (by repeat' (first | with_reducible exact Ent.refl _ | with_reducible refine Ent.take_eq ?_ ?_ | rfl | with_reducible refine Ent.oR ?_ | with_reducible refine Ent.trans (Ent.drop _ _) ?_))
        | true =>
          have hb2 : q ≠ seq + i ∨ run < la := by
            rcases hb with h1 | h1
            · cases h1
            · exact h1
          repeat' (first | with_reducible refine sw_in (by omega) ?_ | with_reducible (first | refine go1 ?_ | refine sct ?_ | refine scf ?_ | refine sgr ?_) | with_reducible refine sw_guard_skip_u ?_ | (with_reducible refine sw_guard_split (fun h => ?_) (fun h => ?_)) <;> (try (exfalso; first | contradiction | omega | exact h Iff.rfl)) | (with_reducible refine sc_cond (fun h => ?_) (fun h => ?_)) <;> (try (exfalso; first | contradiction | omega | exact h Iff.rfl)) | (with_reducible refine sw_pick (fun h => ?_) (fun h => ?_)) <;> (try (exfalso; first | contradiction | omega | exact h Iff.rfl)) | fail)
          all_goals
            refine sq_ent (Ent.take (k := ba) (r' := hex fun l' => pts ba (ibx64 l')) (fun h hh => ⟨la, hh⟩) (Ent.refl _)) ?_
            refine sq_ret0 Try.results103 ?_
            exact hfin _ (by repeat' (first | with_reducible exact Ent.refl _ | with_reducible refine Ent.take_eq ?_ ?_ | rfl | with_reducible refine Ent.oR ?_ | with_reducible refine Ent.trans (Ent.drop _ _) ?_))
      · rw [if_neg hb] at hstep
        have hok : ok = true := by
          cases ok with
          | true => rfl
          | false => exact absurd (.inl rfl) hb
        subst hok
        have hq : q = seq + i := Classical.not_not.1 fun h => hb (.inr (.inl h))
        have hrun : ¬ run < la := fun h => hb (.inr (.inr h))
        clear hb
        rw [hstep] at hall
        generalize hA : flw ms seq ms.length 0 last = all at *
        have hnx : True → all[pre.length]? = some ((⟨true, q, run, began, data⟩ : Fnd), Value.slice a data.length c') ∧ pre = all.take pre.length := by
          intro _
          rw [hall]
          exact ⟨by rw [List.getElem?_append_right (Nat.le_refl _), Nat.sub_self]; rfl, by rw [List.take_left]⟩
        repeat' (first | with_reducible refine sw_in (by omega) ?_ | with_reducible (first | refine go1 ?_ | refine sct ?_ | refine scf ?_ | refine sgr ?_) | with_reducible refine sw_guard_skip_u ?_ | (with_reducible refine sw_guard_split (fun h => ?_) (fun h => ?_)) <;> (try (exfalso; first | contradiction | omega | exact h Iff.rfl)) | (with_reducible refine sc_cond (fun h => ?_) (fun h => ?_)) <;> (try (exfalso; first | contradiction | omega | exact h Iff.rfl)) | (with_reducible refine sw_pick (fun h => ?_) (fun h => ?_)) <;> (try (exfalso; first | contradiction | omega | exact h Iff.rfl)) | fail)
        refine sw_yield rfl (hY pre _ (hnx trivial)) ?_
        rintro _ _ (⟨rfl, rfl⟩ | ⟨rfl, rfl⟩)
        · repeat' (first | with_reducible refine sw_in (by omega) ?_ | with_reducible (first | refine go1 ?_ | refine sct ?_ | refine scf ?_ | refine sgr ?_) | with_reducible refine sw_guard_skip_u ?_ | with_reducible refine sw_store ?_ | (with_reducible refine sw_guard_split (fun h => ?_) (fun h => ?_)) <;> (try (exfalso; first | contradiction | omega | exact h Iff.rfl)) | (with_reducible refine sc_cond (fun h => ?_) (fun h => ?_)) <;> (try (exfalso; first | contradiction | omega | exact h Iff.rfl)) | (with_reducible refine sw_pick (fun h => ?_) (fun h => ?_)) <;> (try (exfalso; first | contradiction | omega | exact h Iff.rfl)) | fail)
          · have hlt4 : data.length < 482 := by omega
            rw [if_pos hlt4] at hall
            refine sq_ent (Ent.take (k := ba) (r' := hex fun l' => pts ba (ibx64 l')) (fun h hh => ⟨la, hh⟩) (Ent.refl _)) ?_
            refine sq_ret0 Try.results103 ?_
            refine ⟨_, ⟨rfl, .inl ⟨pre ++ [((⟨true, q, run, began, data⟩ : Fnd), Value.slice a data.length c')], hall.symm, rfl⟩⟩, ?_⟩
            show Ent _ ((l, J (pre ++ [((⟨true, q, run, began, data⟩ : Fnd), Value.slice a data.length c')])) :: (bl, pts bl (fbx b ms.length c)) :: (bq, pts bq (ibx64 seq)) :: (ba, hex fun l' => pts ba (ibx64 l')) :: (b, pts b (.cells (fall ms ++ t).toArray 117 (0, 0))) :: F)
            repeat' (first | with_reducible exact Ent.refl _ | with_reducible refine Ent.take_eq ?_ ?_ | rfl | with_reducible refine Ent.oR ?_ | with_reducible refine Ent.trans (Ent.drop _ _) ?_)
          · have hlt4 : ¬ data.length < 482 := by omega
            rw [if_neg hlt4] at hall
            refine sq_round ⟨(i + 1, run, pre ++ [((⟨true, q, run, began, data⟩ : Fnd), Value.slice a data.length c')]), hlt, by rw [hall]; simp, by rw [List.length_append, hpre]; rfl⟩ ?_ ?_ ?_
            · show ms.length - (i + 1) < ms.length - i
              omega
            · repeat' (first | exact says_nil | refine says_cons rfl ?_ | refine says_cons (by simp) ?_)
            · repeat' (first | with_reducible exact Ent.refl _ | with_reducible refine Ent.take_eq ?_ ?_ | rfl | with_reducible refine Ent.oR ?_ | with_reducible refine Ent.trans (Ent.drop _ _) ?_)
        · repeat' (first | with_reducible refine sw_in (by omega) ?_ | with_reducible (first | refine go1 ?_ | refine sct ?_ | refine scf ?_ | refine sgr ?_) | with_reducible refine sw_guard_skip_u ?_ | with_reducible refine sw_store ?_ | (with_reducible refine sw_guard_split (fun h => ?_) (fun h => ?_)) <;> (try (exfalso; first | contradiction | omega | exact h Iff.rfl)) | (with_reducible refine sc_cond (fun h => ?_) (fun h => ?_)) <;> (try (exfalso; first | contradiction | omega | exact h Iff.rfl)) | (with_reducible refine sw_pick (fun h => ?_) (fun h => ?_)) <;> (try (exfalso; first | contradiction | omega | exact h Iff.rfl)) | fail)
          refine sq_ent (Ent.take (k := ba) (r' := hex fun l' => pts ba (ibx64 l')) (fun h hh => ⟨la, hh⟩) (Ent.refl _)) ?_
          refine sq_ret0 Try.results103 ?_
          refine ⟨_, ⟨rfl, .inr ⟨pre, ((⟨true, q, run, began, data⟩ : Fnd), Value.slice a data.length c'), hnx trivial, rfl⟩⟩, ?_⟩
          show Ent _ ((l, Jx (pre ++ [((⟨true, q, run, began, data⟩ : Fnd), Value.slice a data.length c')])) :: (bl, pts bl (fbx b ms.length c)) :: (bq, pts bq (ibx64 seq)) :: (ba, hex fun l' => pts ba (ibx64 l')) :: (b, pts b (.cells (fall ms ++ t).toArray 117 (0, 0))) :: F)
          repeat' (first | with_reducible exact Ent.refl _ | with_reducible refine Ent.take_eq ?_ ?_ | rfl | with_reducible refine Ent.oR ?_ | with_reducible refine Ent.trans (Ent.drop _ _) ?_)
    · refine sq_ent (Ent.take (k := ba) (r' := hex fun l' => pts ba (ibx64 l')) (fun h hh => ⟨la, hh⟩) (Ent.refl _)) ?_
      refine sq_end0 Try.results103 ?_
      have hil : i = ms.length := by omega
      subst hil
      rw [Nat.sub_self, flw, List.append_nil] at hall
      refine ⟨_, ⟨rfl, .inl ⟨pre, hall.symm, rfl⟩⟩, ?_⟩
      show Ent _ ((l, J pre) :: (bl, pts bl (fbx b ms.length c)) :: (bq, pts bq (ibx64 seq)) :: (ba, hex fun l' => pts ba (ibx64 l')) :: (b, pts b (.cells (fall ms ++ t).toArray 117 (0, 0))) :: F)
      repeat' (first | with_reducible exact Ent.refl _ | with_reducible refine Ent.take_eq ?_ ?_ | rfl | with_reducible refine Ent.oR ?_ | with_reducible refine Ent.trans (Ent.drop _ _) ?_)
theorem wFollow_ok (a : Option Addr) (n c : Nat) (seq last : Int) : Spec Try.prog 74 [.slice a n c, .int .i64 seq, .int .i64 last] [] [] fun F w Rs' => ∃ bl bq ba, w = .func (.func 103) #[] #[.pointer (some ⟨bl, 0, none⟩), .pointer (some ⟨bq, 0, none⟩), .pointer (some ⟨ba, 0, none⟩)] ∧ Rs' = (ba, pts ba (ibx64 last)) :: (bq, pts bq (ibx64 seq)) :: (bl, pts bl (.cells [.slice a n c].toArray 113 (0, 0))) :: F := by
  refine spec_of Try.func74 rfl Try.ntmps74 rfl ?_
  intro w0 F
  repeat' (first | with_reducible (first | refine go1 ?_ | refine sct ?_ | refine scf ?_ | refine sgr ?_) | fail)
  refine sw_box fun bl => ?_
  repeat' (first | with_reducible (first | refine go1 ?_ | refine sct ?_ | refine scf ?_ | refine sgr ?_) | fail)
  refine sw_box fun bq => ?_
  repeat' (first | with_reducible (first | refine go1 ?_ | refine sct ?_ | refine scf ?_ | refine sgr ?_) | fail)
  refine sw_box fun ba => ?_
  repeat' (first | with_reducible (first | refine go1 ?_ | refine sct ?_ | refine scf ?_ | refine sgr ?_) | fail)
  refine sq_ret1 Try.results74 ?_
  exact ⟨_, ⟨bl, bq, ba, rfl, rfl⟩, Ent.refl _⟩
end Go.Gsl

namespace Go.Gsl
set_option linter.unusedVariables false
open Go.Proofs
/-- a resource that may be there is taken -/
class TakeO {α : Type} (Rs : List Res) (g : α → Res) (o : Option α) (F : outParam (List Res)) : Prop where
  ent : Ent Rs (oR g F o)
  back : Ent (oR g F o) Rs
instance TakeO.here {α : Type} (g : α → Res) (o : Option α) (F : List Res) : TakeO (oR g F o) g o F := ⟨Ent.refl _, Ent.refl _⟩
instance (priority := 50) TakeO.there {α : Type} (q : Res) (Rs : List Res) (g : α → Res) (o : Option α) (F : List Res) [h : TakeO Rs g o F] : TakeO (q :: Rs) g o (q :: F) :=
  ⟨(Ent.cons q h.ent).trans (oR.swap' q o), (oR.swap q o).trans (Ent.cons q h.back)⟩
theorem oR.comm {α β : Type} (g : α → Res) (g' : β → Res) (o : Option α) (o' : Option β) (F : List Res) : Ent (oR g (oR g' F o') o) (oR g' (oR g F o) o') := by
  cases o with
  | none => exact Ent.refl _
  | some a => exact (oR.swap' (g a) o')
instance (priority := 40) TakeO.oR {α β : Type} (g' : β → Res) (o' : Option β) (Rs : List Res) (g : α → Res) (o : Option α) (F : List Res) [h : TakeO Rs g o F] : TakeO (oR g' Rs o') g o (oR g' F o') :=
  ⟨(oR.ent h.ent o').trans (oR.comm g' g o' o F), (oR.comm g g' o o' F).trans (oR.ent h.back o')⟩

theorem Ent.oR {α : Type} {Rs F Rs' : List Res} {g : α → Res} {o : Option α} [t : TakeO Rs g o F] (h : Ent F Rs') : Ent Rs (oR g Rs' o) := t.ent.trans (oR.ent h o)
def vG (k : IntKind) (el : TypeId) (xs : List Int) (x : Nat × List Value) : Res := (x.1, pts x.1 (.cells (xs.map (Value.int k) ++ x.2).toArray el (0, 0)))
theorem vG_some (k : IntKind) (el : TypeId) (xs : List Int) (b : Nat) (t : List Value) (F : List Res) : oR (vG k el xs) F (some (b, t)) = (b, pts b (.cells (xs.map (Value.int k) ++ t).toArray el (0, 0))) :: F := rfl
theorem vG_none (k : IntKind) (el : TypeId) (xs : List Int) (F : List Res) : oR (vG k el xs) F none = F := rfl
instance (priority := 30) TakeO.of (Rs : List Res) (k : IntKind) (el : TypeId) (xs : List Int) (b : Nat) (t : List Value) (F : List Res) [h : Take Rs b (pts b (.cells (xs.map (Value.int k) ++ t).toArray el (0, 0))) F] : TakeO Rs (vG k el xs) (some (b, t)) F := ⟨h.ent, h.back⟩
instance (n : Nat) (o : Option (Nat × List Value)) : One (bufV n o) := ⟨by cases o <;> rfl⟩
/-- a row whose elements have several cells: nil, or a buffer of its own -/
def nV (m : Nat) : Option (Nat × Nat × List Value) → Value
  | none => .slice none 0 0
  | some (b, c, _) => .slice (some ⟨b, 0, none⟩) m c
def nG (el : TypeId) (cells : List Value) (x : Nat × Nat × List Value) : Res := (x.1, pts x.1 (.cells (cells ++ x.2.2).toArray el (0, 0)))
instance (n : Nat) (o : Option (Nat × Nat × List Value)) : One (nV n o) := ⟨by cases o <;> rfl⟩
def NOk (sz : Nat) (cells : List Value) (m : Nat) (o : Option (Nat × Nat × List Value)) : Prop := cells.length = m * sz ∧ (o = none → cells = [] ∧ m = 0) ∧ ∀ b c t, o = some (b, c, t) → m ≤ c ∧ (cells ++ t).length = c * sz
theorem nG_some (el : TypeId) (cells : List Value) (b c : Nat) (t : List Value) (F : List Res) : oR (nG el cells) F (some (b, c, t)) = (b, pts b (.cells (cells ++ t).toArray el (0, 0))) :: F := rfl
theorem nG_none (el : TypeId) (cells : List Value) (F : List Res) : oR (nG el cells) F none = F := rfl
instance (priority := 30) TakeO.ofN (Rs : List Res) (el : TypeId) (cells : List Value) (b c : Nat) (t : List Value) (F : List Res) [h : Take Rs b (pts b (.cells (cells ++ t).toArray el (0, 0))) F] : TakeO Rs (nG el cells) (some (b, c, t)) F := ⟨h.ent, h.back⟩
section
variable {P : Program} {ops : List Oper} {Q : Cont} {n : Nat} {w0 : World} {rest : List Oper} {e : Env} {Rs F : List Res} {ty : TypeId}
/-- append(s, ys...), s being nil or a row of one's own -/
theorem sw_appendV {d : Nat} {t el : TypeId} {nb : Nat} {x y : Operand} {z : Value} {kd : IntKind} {a : Option Addr} {m' c' : Nat} {pos : String} {after : Array Edge} (xs ys : List Int) (o : Option (Nat × List Value)) (ho : o = none → xs = [])
    [hx : Ev n e x (bufV xs.length o)] [hy : Ev n e y (.slice a m' c')] [he : Elem P t el 1 nb z] [hz : One z] [tk : TakeO Rs (vG kd el xs) o F]
    (hsrc : ∀ w, Sat w0 w Rs → ∀ j v, (ys.map (Value.int kd))[j]? = some v → ∃ ad, a = some ad ∧ w.cell? (ad.add j) = some v)
    (h : ys.length = m' ∧ xs.length + ys.length ≤ 9223372036854775807 ∧ (xs.length + ys.length) * nb ≤ 140737488355328)
    (k : ∀ o', (o' = none ↔ o = none ∧ ys = []) → SW P ops Q n w0 rest ((d, bufV (xs ++ ys).length o') :: e) (oR (vG kd el (xs ++ ys)) F o')) :
    SW P ops Q n w0 ({ dst := some d, op := .call { callee := .builtin .append, args := [x, y].toArray, argTypes := [t, t].toArray }, type := ty, pos := pos, after := after, guard := none } :: rest) e Rs := by
  obtain ⟨h1, h2, h3⟩ := h
  subst h1
  cases o with
  | none =>
    have hx0 := ho rfl
    subst hx0
    have hxn : Ev n e x (.slice none 0 0) := hx
    cases ys with
    | nil =>
      have hy0 : Ev n e y (.slice a 0 c') := hy
      exact sw_append_00 (a := a) (c' := c') (el := el) (fun w hw => k none ⟨fun _ => ⟨rfl, rfl⟩, fun _ => rfl⟩ w (hw.ent tk.ent))
    | cons y0 ys =>
      refine sw_append_nil (src := (y0 :: ys).map (Value.int kd)) (hy := hy) (el := el) hsrc ⟨by simp, by rw [List.length_map], by simp at h2 ⊢; omega, by simp only [List.length_nil, Nat.zero_add] at h3; omega⟩ fun b' r => ?_
      have := k (some (b', r)) (by simp)
      refine sw_ent (Ent.cons _ tk.ent) ?_
      exact this
  | some bt =>
    obtain ⟨b, r0⟩ := bt
    have hxs : Ev n e x (.slice (some ⟨b, 0, none⟩) xs.length (xs.length + r0.length)) := hx
    have tk' : Take Rs b (pts b (.cells (xs.map (Value.int kd) ++ r0).toArray el (0, 0))) F := ⟨tk.ent, tk.back⟩
    refine sw_append (src := ys.map (Value.int kd)) (hx := hxs) (el := el) (tk := tk') hsrc (one_ints _ _) ⟨by omega, by rw [List.length_append, List.length_map], by rw [List.length_map], h2, h3⟩ fun b' r => ?_
    rw [List.take_left' (by rw [List.length_map]), ← List.map_append, ← List.length_append]
    exact k (some (b', r)) (by simp)
theorem sw_appendV1 {d b7 : Nat} {t el t' : TypeId} {fr : Nat × Nat} {nb : Nat} {x y : Operand} {z : Value} {kd : IntKind} {c' : Nat} {pos : String} {after : Array Edge} {F2 : List Res} (xs : List Int) (y0 : Int) (o : Option (Nat × List Value)) (ho : o = none → xs = [])
    [hx : Ev n e x (bufV xs.length o)] [hy : Ev n e y (.slice (some ⟨b7, 0, none⟩) 1 c')] [he : Elem P t el 1 nb z] [hz : One z] [tk : TakeO Rs (vG kd el xs) o F] [tk2 : Take Rs b7 (pts b7 (.cells [Value.int kd y0].toArray t' fr)) F2]
    (h : xs.length + 1 ≤ 9223372036854775807 ∧ (xs.length + 1) * nb ≤ 140737488355328)
    (k : ∀ o', o' ≠ none → SW P ops Q n w0 rest ((d, bufV (xs ++ [y0]).length o') :: e) (oR (vG kd el (xs ++ [y0])) F o')) :
    SW P ops Q n w0 ({ dst := some d, op := .call { callee := .builtin .append, args := [x, y].toArray, argTypes := [t, t].toArray }, type := ty, pos := pos, after := after, guard := none } :: rest) e Rs := by
  refine sw_appendV (kd := kd) (hx := hx) (hy := hy) xs [y0] o ho src_pts0 ⟨rfl, h.1, h.2⟩ fun o' ho' => k o' fun h => ?_
  have := (ho'.1 h).2
  cases this
/-- s[:h] -/
theorem runop_cutV {t el : TypeId} {nb : Nat} {x y : Operand} {b : Nat} {r : List Value} {kd kh : IntKind} {i : Int} {z : Value} (xs : List Int) (K : Nat) [hx : Ev n e x (bufV xs.length (some (b, r)))] [hy : Ev n e y (.int kh i)] [he : Elem P t el 1 nb z] (h : i = K ∧ K ≤ xs.length) :
    RunOp P n w0 e Rs (.slice t x none (some y) none) ty (bufV (xs.take K).length (some (b, (xs.drop K).map (Value.int kd) ++ r))) := by
  have hx' : Ev n e x (.slice (some ⟨b, 0, none⟩) xs.length (xs.length + r.length)) := hx
  have h1 := runop_slice (P := P) (n := n) (w0 := w0) (e := e) (Rs := Rs) (ty := ty) (t := t) (x := x) (lo := none) (hi := some y) (mx := none) 0 K (xs.length + r.length) 0 (hx := hx') (by omega) ⟨rfl, h.1, rfl, by split <;> omega⟩
  have h2 : (bufV (xs.take K).length (some (b, (xs.drop K).map (Value.int kd) ++ r))) = Value.slice (some ⟨b, 0, none⟩) (K - 0) (xs.length + r.length - 0) := by
    have : (xs.take K).length = K := by rw [List.length_take]; omega
    simp only [bufV, List.length_append, List.length_map, List.length_drop, this]
    congr 1
    omega
  rw [h2]
  exact h1
def cutO (kd : IntKind) (xs : List Int) (K : Nat) (o : Option (Nat × List Value)) : Option (Nat × List Value) := o.map fun x => (x.1, (xs.drop K).map (Value.int kd) ++ x.2)
theorem runop_cutVO {t el : TypeId} {nb : Nat} {x y : Operand} {kd kh : IntKind} {i : Int} {z : Value} (xs : List Int) (K : Nat) (o : Option (Nat × List Value)) (ho : o = none → xs = []) [hx : Ev n e x (bufV xs.length o)] [hy : Ev n e y (.int kh i)] [he : Elem P t el 1 nb z] (h : i = K ∧ K ≤ xs.length) :
    RunOp P n w0 e Rs (.slice t x none (some y) none) ty (bufV (xs.take K).length (cutO kd xs K o)) := by
  cases o with
  | none =>
    have hx' : Ev n e x (.slice none 0 0) := hx
    obtain ⟨h1, h2⟩ := h
    rw [ho rfl] at h2
    simp only [List.length_nil] at h2
    obtain rfl : K = 0 := by omega
    have hi0 : i = 0 := by omega
    obtain ⟨i0, hi1, hz0, hz1, hz2⟩ := info_parts he.info
    refine ⟨fun op ho' _ w _ => ?_⟩
    unfold execOp; rw [ho']
    have h4 := (Bounds.hi1 0 0 kh i).out (by omega) P w
    have hy' : (act n e).eval y = Value.int kh i := hy.out
    subst hi0
    show _ = Result.ok (Next.value (Value.slice none 0 0)) w
    simp [Instr.sliceAt, Instr.slice, run_underlying he.und, hx'.out, hy', h4, sizeOf, typeInfo, hi1]
  | some bt =>
    obtain ⟨b, r⟩ := bt
    exact runop_cutV xs K h
theorem oR_cut (k : IntKind) (el : TypeId) (xs : List Int) (K : Nat) (o : Option (Nat × List Value)) (F : List Res) : oR (vG k el xs) F o = oR (vG k el (xs.take K)) F (cutO k xs K o) := by
  cases o with
  | none => rfl
  | some bt =>
    obtain ⟨b, r⟩ := bt
    show vG k el xs (b, r) :: F = vG k el (xs.take K) (b, _) :: F
    congr 1
    unfold vG
    simp only
    rw [← List.append_assoc, ← List.map_append, List.take_append_drop]
theorem vG_cut (k : IntKind) (el : TypeId) (xs : List Int) (K b : Nat) (r : List Value) : vG k el xs (b, r) = vG k el (xs.take K) (b, (xs.drop K).map (Value.int k) ++ r) := by
  unfold vG
  simp only
  rw [← List.append_assoc, ← List.map_append, List.take_append_drop]
/-- append(s, make([]T, k)...) -/
theorem sw_appendZV {d : Nat} {t tx el : TypeId} {nb : Nat} {x y : Operand} {kd kx : IntKind} {i : Int} {pos : String} {after : Array Edge} (xs : List Int) (m' : Nat) (o : Option (Nat × List Value)) (ho : o = none → xs = [])
    [hx : Ev n e x (bufV xs.length o)] [hy : Ev n e y (.int .i64 i)] [he : Elem P t el 1 nb (.int kd 0)] [hu : Und P tx (.int kx)] [tk : TakeO Rs (vG kd el xs) o F]
    (h : i = m' ∧ 0 < m' ∧ xs.length + m' ≤ 9223372036854775807 ∧ (xs.length + m') * nb ≤ 140737488355328)
    (k : ∀ o', o' ≠ none → SW P ops Q n w0 rest ((d, bufV (xs ++ List.replicate m' 0).length o') :: e) (oR (vG kd el (xs ++ List.replicate m' 0)) F o')) :
    SW P ops Q n w0 ({ dst := some d, op := .call { callee := .builtin .append, args := [x, y].toArray, argTypes := [t, tx].toArray }, type := ty, pos := pos, after := after, guard := none } :: rest) e Rs := by
  obtain ⟨h1, h2, h3, h4⟩ := h
  have hl : (xs ++ List.replicate m' 0).length = xs.length + m' := by rw [List.length_append, List.length_replicate]
  cases o with
  | none =>
    obtain rfl := ho rfl
    subst h1
    have hxn : Ev n e x (.slice none 0 0) := hx
    intro w hw
    obtain ⟨i0, hi, hz0, hz1, hz2⟩ := info_parts he.info
    simp only [List.length_nil, Nat.zero_add] at h3 h4
    have hr := Lib.run_append_nil_zeros (P := P) w t tx ty el i0 (.int kd 0) .i64 kx he.und hu.out hi hz0 m' h2 (by omega) (by omega) (by rw [hz2]; omega)
    refine wpM_value rfl (run_call_append rfl w hr) ?_
    rw [actM_put]
    have hzs : (Value.int kd 0).cells.size = 1 := rfl
    have hge := grownCap_ge w m' 0 el
    have h8 := k (some (w.heap.size, (Builtin.zeroCells (Value.int kd 0).cells (grownCap w m' 0 el - m')).toList)) (by simp)
    have h9 := (hw.draw (w.drawn + 1)).new (.cells (Builtin.zeroCells (Value.int kd 0).cells m' ++ Builtin.zeroCells (Value.int kd 0).cells (grownCap w m' 0 el - m')) el (0, 0))
    have e1 : m' + (Builtin.zeroCells (Value.int kd 0).cells (grownCap w m' 0 el - m')).toList.length = grownCap w m' 0 el := by rw [zeroCells_len _ _ hzs]; omega
    have e2 : Builtin.zeroCells (Value.int kd 0).cells m' ++ Builtin.zeroCells (Value.int kd 0).cells (grownCap w m' 0 el - m') = (([] ++ List.replicate m' (0 : Int)).map (Value.int kd) ++ (Builtin.zeroCells (Value.int kd 0).cells (grownCap w m' 0 el - m')).toList).toArray := by
      rw [zeroCells_rep _ (show (Value.int kd 0).oneCell' = true from rfl) m']
      simp
    have e3 : bufV ([] ++ List.replicate m' (0 : Int)).length (some (w.heap.size, (Builtin.zeroCells (Value.int kd 0).cells (grownCap w m' 0 el - m')).toList)) = .slice (some ⟨w.heap.size, 0, none⟩) m' (grownCap w m' 0 el) := by
      show Value.slice _ _ _ = _
      rw [List.nil_append, List.length_replicate, e1]
    rw [e3] at h8
    rw [e2] at h9
    rw [e2]
    exact h8 _ (h9.ent (Ent.cons _ tk.ent))
  | some bt =>
    obtain ⟨b, r0⟩ := bt
    have hxs : Ev n e x (.slice (some ⟨b, 0, none⟩) xs.length (xs.length + r0.length)) := hx
    have tk' : Take Rs b (pts b (.cells (xs.map (Value.int kd) ++ r0).toArray el (0, 0))) F := ⟨tk.ent, tk.back⟩
    refine sw_append_make m' (hx := hxs) (el := el) (tk := tk') ⟨h1, h2, by omega, by rw [List.length_append, List.length_map], h3, h4⟩ fun b' r => ?_
    rw [List.take_left' (by rw [List.length_map])]
    have := k (some (b', r)) (by simp)
    have e3 : bufV (xs ++ List.replicate m' (0 : Int)).length (some (b', r)) = .slice (some ⟨b', 0, none⟩) (xs.length + m') (xs.length + m' + r.length) := by
      show Value.slice _ _ _ = _
      rw [hl]
    rw [e3, vG_some, List.map_append, List.map_replicate] at this
    exact this
/-! elements of several cells -/
theorem sw_appendNV {d : Nat} {t el : TypeId} {nb sz : Nat} {x y : Operand} {z : Value} {b7 : Nat} {c' : Nat} {t' : TypeId} {fr : Nat × Nat} {F2 : List Res} {pos : String} {after : Array Edge} (cells src : List Value) (m : Nat) (o : Option (Nat × Nat × List Value)) (ho : NOk sz cells m o)
    [hx : Ev n e x (nV m o)] [hy : Ev n e y (.slice (some ⟨b7, 0, none⟩) 1 c')] [he : Elem P t el sz nb z] [tk : TakeO Rs (nG el cells) o F] [tk2 : Take Rs b7 (pts b7 (.cells src.toArray t' fr)) F2]
    (h1 : ∀ v ∈ src, v.oneCell' = true) (hzc : z.cells.size = sz) (hsz : 0 < sz)
    (h : src.length = sz ∧ m + 1 ≤ 9223372036854775807 ∧ (m + 1) * nb ≤ 140737488355328)
    (k : ∀ o', o' ≠ none → NOk sz (cells ++ src) (m + 1) o' → SW P ops Q n w0 rest ((d, nV (m + 1) o') :: e) (oR (nG el (cells ++ src)) F o')) :
    SW P ops Q n w0 ({ dst := some d, op := .call { callee := .builtin .append, args := [x, y].toArray, argTypes := [t, t].toArray }, type := ty, pos := pos, after := after, guard := none } :: rest) e Rs := by
  obtain ⟨h2, h3, h4⟩ := h
  obtain ⟨q1, q2, q3⟩ := ho
  cases o with
  | none =>
    obtain ⟨rfl, rfl⟩ := q2 rfl
    have hxn : Ev n e x (.slice none 0 0) := hx
    refine sw_appendN_nil (src := src) (hx := hxn) (hy := hy) (el := el) src_pts0 hzc hsz ⟨by omega, by omega, by omega, by omega⟩ fun b' r c2 hc2 hl2 => ?_
    have hk := k (some (b', c2, r)) (by simp) ⟨by rw [List.nil_append]; omega, fun h => (by cases h), fun b c t hh => by cases hh; exact ⟨hc2, hl2⟩⟩
    exact sw_ent (Ent.cons _ tk.ent) hk
  | some bt =>
    obtain ⟨b, c, r0⟩ := bt
    obtain ⟨q4, q5⟩ := q3 b c r0 rfl
    have hxs : Ev n e x (.slice (some ⟨b, 0, none⟩) m c) := hx
    have tk' : Take Rs b (pts b (.cells (cells ++ r0).toArray el (0, 0))) F := ⟨tk.ent, tk.back⟩
    refine sw_appendN (src := src) (hx := hxs) (hy := hy) (el := el) (tk := tk') src_pts0 h1 hzc hsz ⟨q4, q5, by omega, h3, h4⟩ fun b' r c2 hc2 hl2 => ?_
    rw [List.take_left' q1] at hl2 ⊢
    exact k (some (b', c2, r)) (by simp) ⟨by rw [List.length_append, q1, h2, Nat.add_mul]; omega, fun h => (by cases h), fun b c t hh => by cases hh; exact ⟨hc2, hl2⟩⟩
theorem runop_lenNV {t et : TypeId} {x : Operand} {m : Nat} (o : Option (Nat × Nat × List Value)) (ho : o = none → m = 0) [hx : Ev n e x (nV m o)] [hu : Und P t (.slice et)] : RunOp P n w0 e Rs (.call { callee := .builtin .len, args := [x].toArray, argTypes := [t].toArray }) ty (.int .i64 m) := by
  cases o with
  | none =>
    have := ho rfl
    subst this
    have hx' : Ev n e x (.slice none 0 0) := hx
    exact @RunOp.pure P n w0 e Rs _ _ _ (PureOp.sllen x none 0 0 t et)
  | some bt =>
    obtain ⟨b, c, r⟩ := bt
    have hx' : Ev n e x (.slice (some ⟨b, 0, none⟩) m c) := hx
    exact @RunOp.pure P n w0 e Rs _ _ _ (PureOp.sllen x _ m _ t et)
/-- its element -/
theorem runop_idxV {t et : TypeId} {x y : Operand} {b m : Nat} {r : List Value} {k : IntKind} {i : Int} (j : Nat) [hx : Ev n e x (bufV m (some (b, r)))] [hy : Ev n e y (.int k i)] [hu : Und P t (.slice et)] [hs : SizeOf P et 1] (h : i = j ∧ j < m) :
    RunOp P n w0 e Rs (.indexAddr t x y) ty (.pointer (some ⟨b, j, none⟩)) := by
  have hx' : Ev n e x (.slice (some ⟨b, 0, none⟩) m (m + r.length)) := hx
  exact runop_idx j h
/-- len of it -/
theorem runop_lenV {t et : TypeId} {x : Operand} {m : Nat} (o : Option (Nat × List Value)) (ho : o = none → m = 0) [hx : Ev n e x (bufV m o)] [hu : Und P t (.slice et)] : RunOp P n w0 e Rs (.call { callee := .builtin .len, args := [x].toArray, argTypes := [t].toArray }) ty (.int .i64 m) := by
  cases o with
  | none =>
    have := ho rfl
    subst this
    have hx' : Ev n e x (.slice none 0 0) := hx
    exact @RunOp.pure P n w0 e Rs _ _ _ (PureOp.sllen x none 0 0 t et)
  | some bt =>
    obtain ⟨b, r⟩ := bt
    have hx' : Ev n e x (.slice (some ⟨b, 0, none⟩) m (m + r.length)) := hx
    exact @RunOp.pure P n w0 e Rs _ _ _ (PureOp.sllen x _ m _ t et)
end
end Go.Gsl

namespace Go.Gsl
set_option linter.unusedVariables false
open Go.Proofs

/-- a mark -/
structure Mk where
  sector : Int
  offset : Int
  number : Int
  run : Int
deriving DecidableEq
def Mk.cs (m : Mk) : List Value := [.int .i64 m.sector, .int .i64 m.offset, .int .i64 m.number, .int .i64 m.run]
def Mk.Ok (m : Mk) : Prop := Stamp m.sector 0 ∧ Stamp m.number 0 ∧ Stamp m.run 0 ∧ 0 ≤ m.offset ∧ m.offset < 482
instance (m : Mk) : Decidable m.Ok := inferInstanceAs (Decidable (_ ∧ _))

/-- a log -/
structure Lg where
  d : Nat
  f : Nat
  n : Nat
  run : Int
  began : Int
  base : Int
  row : List Int
  runs : List Int
  first : Mk
  l : List (Int × List Int)
  sure : Int
  flushed : Int
  dirty : Bool

/-! what is there -/
def runF : List Fnd → Int → Int
  | [], r => r
  | x :: xs, r => runF xs (if x.ok then max r (x.run + 1) else r)
def flwF (fs : List Fnd) (seq : Int) : Nat → Nat → Int → List Fnd
  | 0, _, _ => []
  | k + 1, i, last => match fs[((seq + i) % fs.length).toNat]? with
    | none => []
    | some x => if x.bad (seq + i) last then [] else x :: (if x.data.length < 482 then [] else flwF fs seq k (i + 1) x.run)
/-- does it break the row? -/
def Fnd.brk (x : Fnd) (runs : List Int) : Prop := 0 < runs.length ∧ runs.getLast?.getD 0 < x.run ∧ x.began < x.seq * 482
instance (x : Fnd) (runs : List Int) : Decidable (x.brk runs) := inferInstanceAs (Decidable (_ ∧ _))
def rowF (base : Int) : List Fnd → List Int → List Int → List Int × List Int
  | [], row, runs => (row, runs)
  | x :: xs, row, runs => if x.brk runs then (row.take (max 0 (x.began - base * 482)).toNat, runs) else rowF base xs (row ++ x.data) (runs ++ [x.run])
def recF (base : Int) (row : List Int) : Nat → Nat → List (Int × List Int) → List (Int × List Int) × Nat
  | 0, at', l => (l, at')
  | k + 1, at', l => if row.length ≤ at' then (l, at') else
    if (unfr (row.drop at')).1 ≠ 0 ∨ 65536 < (unfr (row.drop at')).2.1.length then (l, at') else recF base row k (at' + (unfr (row.drop at')).2.2.toNat) (l ++ [(base * 482 + at', (unfr (row.drop at')).2.1)])
/-- the log that is there -/
def opnL (fs : List Fnd) (d f n : Nat) (m : Mk) : Lg :=
  let rr := rowF m.sector (flwF fs m.sector fs.length 0 m.run) [] []
  let re := recF m.sector rr.1 rr.1.length m.offset.toNat []
  { d, f, n, run := runF fs 1, began := m.sector * 482 + re.2, base := m.sector, row := (rr.1 ++ List.replicate (re.2 - rr.1.length) 0).take re.2, runs := rr.2.take ((re.2 + 481) / 482), first := m, l := re.1, sure := m.sector * 482 + re.2, flushed := m.number + re.1.length, dirty := false }

theorem flw_fst (ms : List (Fnd × Value)) (seq : Int) : ∀ (k i : Nat) (last : Int), (flw ms seq k i last).map Prod.fst = flwF (ms.map Prod.fst) seq k i last
  | 0, _, _ => rfl
  | k + 1, i, last => by
    rw [flw, flwF, List.length_map, List.getElem?_map]
    cases h : ms[((seq + i) % ms.length).toNat]? with
    | none => rfl
    | some x =>
      simp only [Option.map_some]
      by_cases hb : x.1.bad (seq + i) last
      · rw [if_pos hb, if_pos hb]; rfl
      · rw [if_neg hb, if_neg hb, List.map_cons]
        congr 1
        by_cases h4 : x.1.data.length < 482
        · rw [if_pos h4, if_pos h4]; rfl
        · rw [if_neg h4, if_neg h4]
          exact flw_fst ms seq k (i + 1) x.1.run
end Go.Gsl

namespace Go.Gsl
set_option linter.unusedVariables false
open Go.Proofs

abbrev lobj (d f n : Nat) (run began base : Int) (vrow vruns : Value) (m : Mk) (vl : Value) (sure flushed : Int) (dirty : Bool) : Obj :=
  .cells [.pointer (some ⟨d, 0, none⟩), .int .i64 f, .int .i64 n, .int .i64 run, .int .i64 began, .int .i64 base, vrow, vruns, .int .i64 m.sector, .int .i64 m.offset, .int .i64 m.number, .int .i64 m.run, vl, .int .i64 sure, .int .i64 flushed, .bool dirty].toArray 80 (0, 0)
abbrev mobj (m : Mk) : Obj := .cells [.int .i64 m.sector, .int .i64 m.offset, .int .i64 m.number, .int .i64 m.run].toArray 23 (0, 0)
theorem Dk.upAll {s : Dk} (hd : s.down = false) {f n : Nat} (hn : f + n ≤ s.sure.length) : ∀ i < n, s.looks ((f : Int) + (i : Int)) = 0 := by
  intro i hi
  unfold Dk.looks
  rw [hd, if_neg (by decide), if_neg (by omega)]

theorem wOpen_bad (pd : Nat) (s : Dk) (f n : Nat) (m : Mk) (hn : 2 ≤ n ∧ f + n ≤ s.sure.length) (hm : ¬ m.Ok) :
    Spec Try.prog 32 [.pointer (some ⟨pd, 0, none⟩), .int .i64 f, .int .i64 n, .agg (Mk.cs m).toArray] [pd] [DISK pd s] fun F w Rs' => w = .tuple #[.pointer none, .int .i64 170] ∧ Rs' = (pd, DISK pd s) :: F := by
  refine spec_of Try.func32 rfl Try.ntmps32 rfl ?_
  intro w0 F
  unfold Mk.cs
  refine DISK.scwf (p := pd) (s := s) fun hwf => ?_
  have hn1 := hwf.n1
  have hn2 := hwf.n2
  repeat' (first | with_reducible (first | refine go1 ?_ | refine sct ?_ | refine scf ?_ | refine sgr ?_) | fail)
  refine sw_box fun bm => ?_
  repeat' (first | with_reducible refine sw_i64 (by omega) ?_ | with_reducible (first | refine go1 ?_ | refine sct ?_ | refine scf ?_ | refine sgr ?_) | with_reducible refine sw_guard_skip_u ?_ | ((with_reducible refine sw_call (dSectors_ok pd s) ?_); rintro _ _ ⟨rfl, rfl⟩) | ((with_reducible refine sw_call (wStamp_ok _) ?_); rintro _ _ ⟨rfl, rfl⟩) | (with_reducible refine sc_cond (fun h => ?_) (fun h => ?_)) <;> (try (exfalso; first | contradiction | omega | exact h Iff.rfl)) | (with_reducible refine sw_guard_split (fun h => ?_) (fun h => ?_)) <;> (try (exfalso; first | contradiction | omega | exact h Iff.rfl)) | (with_reducible refine sw_pick (fun h => ?_) (fun h => ?_)) <;> (try (exfalso; first | contradiction | omega | exact h Iff.rfl)) | fail)
  all_goals first
    | (refine sq_ret2 Try.results32 ?_; refine ⟨_, ⟨rfl, rfl⟩, ?_⟩; repeat' (first | with_reducible exact Ent.refl _ | with_reducible refine Ent.take_eq ?_ ?_ | rfl | with_reducible refine Ent.oR ?_ | with_reducible refine Ent.trans (Ent.drop _ _) ?_))
    | (exfalso; exact hm ⟨Classical.not_not.1 (by assumption), Classical.not_not.1 (by assumption), Classical.not_not.1 (by assumption), by omega, by omega⟩)

/-- what a sector that was read may be -/
def Fnd.Wf (x : Fnd) : Prop := (0 ≤ x.seq ∧ x.seq ≤ 1099511627776) ∧ (0 ≤ x.run ∧ x.run ≤ 1099511627776) ∧ (0 ≤ x.began ∧ x.began ≤ 529964604588032) ∧ x.data.length ≤ 482 ∧ Byt x.data
theorem Fnd.of_wf {bs : List Int} (hb : Byt bs) : (Fnd.of bs).Wf := by
  unfold Fnd.of
  split
  · rename_i h
    unfold unhE at h
    split at h
    · cases h
    split at h
    · cases h
    split at h
    · rename_i hu
      obtain ⟨⟨g1, g2, g3, g4⟩, _⟩ := hu
      refine ⟨g1, g2, g3, ?_, hb.sub 30 _⟩
      show ((bs.drop 30).take (uhN bs)).length ≤ 482
      rw [List.length_take]
      omega
    · cases h
  · exact ⟨⟨by decide, by decide⟩, ⟨by decide, by decide⟩, ⟨by decide, by decide⟩, Nat.zero_le _, fun x hx => by cases hx⟩
theorem runF_snoc : ∀ (xs : List Fnd) (x : Fnd) (r : Int), runF (xs ++ [x]) r = if x.ok then max (runF xs r) (x.run + 1) else runF xs r
  | [], x, r => rfl
  | y :: xs, x, r => by rw [List.cons_append, runF, runF, runF_snoc xs x]
theorem runF_in {xs : List Fnd} (h : ∀ x ∈ xs, x.Wf) : ∀ {r : Int}, 1 ≤ r ∧ r ≤ 1099511627777 → 1 ≤ runF xs r ∧ runF xs r ≤ 1099511627777 := by
  induction xs with
  | nil => exact fun hr => hr
  | cons x xs ih =>
    intro r hr
    rw [runF]
    have hx := (h x List.mem_cons_self).2.1
    refine ih (fun y hy => h y (List.mem_cons_of_mem _ hy)) ?_
    split <;> omega
/-- what the bag says of the slices -/
theorem Bag.slices {ms : List (Fnd × Value)} {h : Hp} (hb : Bag (fbag ms) h) : ∀ m ∈ ms, ∃ a c', m.2 = .slice a m.1.data.length c' ∧ (0 < m.1.data.length → a ≠ none) := by
  intro m hm
  rcases hb (m.2, m.1.data) (List.mem_map.2 ⟨m, hm, rfl⟩) with ⟨h1, h2⟩ | ⟨b, r, h1, _⟩
  · simp only at h1 h2
    exact ⟨none, 0, by rw [h1, h2]; rfl, by rw [h2]; intro h; simp at h⟩
  · exact ⟨_, _, h1, by simp⟩
theorem bag_src {w0 : World} {Rs F : List Res} {k : Nat} {L : List (Value × List Int)} {a : Option Addr} {c : Nat} {xs : List Int} [tk : Take Rs k (Bag L) F] (hm : (Value.slice a xs.length c, xs) ∈ L) :
    ∀ w, Sat w0 w Rs → ∀ j u, (xs.map (Value.int .u8))[j]? = some u → ∃ ad, a = some ad ∧ w.cell? (ad.add j) = some u := by
  intro w hw j u hj
  obtain ⟨_, z, hf, hs⟩ := hw
  obtain ⟨x, y, hdj, rfl, hx, _⟩ := tk.ent _ hs
  rcases hx _ hm with ⟨h1, h2⟩ | ⟨b, r, h1, hi⟩
  · simp only at h2
    rw [h2] at hj
    simp at hj
  · simp only [Value.slice.injEq] at h1
    obtain ⟨rfl, _, _⟩ := h1
    refine ⟨_, rfl, cell_row (hf.left _ _ _ hi) ?_⟩
    rw [Nat.zero_add, List.getElem?_append_left (List.getElem?_eq_some_iff.1 hj).1]
    exact hj

/-- the sectors that follow: their numbers; all but the last one are full -/
theorem flw_get {ms : List (Fnd × Value)} {seq : Int} : ∀ {k i : Nat} {last : Int} {j : Nat} {x : Fnd × Value}, (flw ms seq k i last)[j]? = some x →
    x.1.seq = seq + i + j ∧ x ∈ ms ∧ ∀ j' < j, ∀ y, (flw ms seq k i last)[j']? = some y → ¬ y.1.data.length < 482
  | 0, i, last, j, x, h => by rw [flw] at h; simp at h
  | k + 1, i, last, j, x, h => by
    rw [flw] at h ⊢
    cases hm : ms[((seq + i) % ms.length).toNat]? with
    | none => rw [hm] at h; simp at h
    | some y =>
      rw [hm] at h
      simp only at h ⊢
      by_cases hb : y.1.bad (seq + i) last
      · rw [if_pos hb] at h; simp at h
      · rw [if_neg hb] at h ⊢
        have hy : y.1.seq = seq + i := Classical.not_not.1 fun h' => hb (.inr (.inl h'))
        cases j with
        | zero =>
          simp only [List.getElem?_cons_zero, Option.some.injEq] at h
          subst h
          exact ⟨by rw [hy]; simp, List.mem_of_getElem? hm, fun j' hj' => absurd hj' (Nat.not_lt_zero _)⟩
        | succ j =>
          rw [List.getElem?_cons_succ] at h
          by_cases h4 : y.1.data.length < 482
          · rw [if_pos h4] at h; simp at h
          · rw [if_neg h4] at h ⊢
            obtain ⟨a1, a2, a3⟩ := flw_get h
            refine ⟨by rw [a1]; omega, a2, fun j' hj' z hz => ?_⟩
            cases j' with
            | zero =>
              simp only [List.getElem?_cons_zero, Option.some.injEq] at hz
              subst hz
              exact h4
            | succ j' =>
              rw [List.getElem?_cons_succ] at hz
              exact a3 j' (by omega) z hz
theorem flw_len {ms : List (Fnd × Value)} {seq : Int} : ∀ {k i : Nat} {last : Int}, (flw ms seq k i last).length ≤ k
  | 0, i, last => by rw [flw]; exact Nat.le_refl _
  | k + 1, i, last => by
    rw [flw]
    cases ms[((seq + i) % ms.length).toNat]? with
    | none => exact Nat.zero_le _
    | some y =>
      simp only
      by_cases hb : y.1.bad (seq + i) last
      · rw [if_pos hb]; exact Nat.zero_le _
      · rw [if_neg hb, List.length_cons]
        by_cases h4 : y.1.data.length < 482
        · rw [if_pos h4]; simp
        · rw [if_neg h4]
          exact Nat.succ_le_succ flw_len
def rowOf (pre : List (Fnd × Value)) : List Int := (pre.map fun x => x.1.data).flatten
def runsOf (pre : List (Fnd × Value)) : List Int := pre.map fun x => x.1.run
theorem rowOf_snoc (pre : List (Fnd × Value)) (x : Fnd × Value) : rowOf (pre ++ [x]) = rowOf pre ++ x.1.data := by unfold rowOf; simp
theorem runsOf_snoc (pre : List (Fnd × Value)) (x : Fnd × Value) : runsOf (pre ++ [x]) = runsOf pre ++ [x.1.run] := by unfold runsOf; simp
theorem rowOf_len {pre : List (Fnd × Value)} (h : ∀ x ∈ pre, x.1.data.length = 482) : (rowOf pre).length = pre.length * 482 := by
  induction pre with
  | nil => rfl
  | cons x pre ih =>
    unfold rowOf at ih ⊢
    rw [List.map_cons, List.flatten_cons, List.length_append, ih fun y hy => h y (List.mem_cons_of_mem _ hy), h x List.mem_cons_self, List.length_cons]
    omega
/-- nothing broke so far -/
def Runs (base : Int) (pre : List (Fnd × Value)) : Prop := ∀ rest, rowF base (pre.map Prod.fst ++ rest) [] [] = rowF base rest (rowOf pre) (runsOf pre)
theorem Runs.nil (base : Int) : Runs base [] := fun _ => rfl
theorem Runs.snoc {base : Int} {pre : List (Fnd × Value)} {x : Fnd × Value} (h : Runs base pre) (hx : ¬ x.1.brk (runsOf pre)) : Runs base (pre ++ [x]) := by
  intro rest
  rw [List.map_append, List.append_assoc, h, rowOf_snoc, runsOf_snoc]
  show rowF base (x.1 :: rest) _ _ = _
  rw [rowF, if_neg hx]
theorem Runs.brk {base : Int} {pre : List (Fnd × Value)} {x : Fnd × Value} (h : Runs base pre) (hx : x.1.brk (runsOf pre)) (rest : List Fnd) : rowF base ((pre ++ [x]).map Prod.fst ++ rest) [] [] = ((rowOf pre).take (max 0 (x.1.began - base * 482)).toNat, runsOf pre) := by
  rw [List.map_append, List.append_assoc, h]
  show rowF base (x.1 :: rest) _ _ = _
  rw [rowF, if_pos hx]

section
variable {P : Program} {Q : Cont} {n0 : Nat} {w0 : World} {e : Env} {Rs F : List Res}
abbrev rG := vG .u8 5
abbrev iG := vG .i64 2
theorem oR_app {α : Type} (g : α → Res) (A F : List Res) (o : Option α) : oR g A o ++ F = oR g (A ++ F) o := by cases o <;> rfl
/-- the log while it is being opened -/
def ORow (p : Nat) (mk : Value → Value → Obj) (row runs : List Int) : HProp := fun h => ∃ o : Option (Nat × List Value) × Option (Nat × List Value), ((o.1 = none → row = []) ∧ (o.2 = none ↔ runs = [])) ∧
  hall ((p, pts p (mk (bufV row.length o.1) (bufV runs.length o.2))) :: oR (rG row) (oR (iG runs) [] o.2) o.1) h
theorem sc_orow {c : Code} (p : Nat) (mk : Value → Value → Obj) (row runs : List Int) [tk : Take Rs 7003 (ORow p mk row runs) F]
    (q : ∀ o1 o2, (o1 = none → row = []) → (o2 = none ↔ runs = []) → SC P Q n0 w0 c e ((p, pts p (mk (bufV row.length o1) (bufV runs.length o2))) :: oR (rG row) (oR (iG runs) F o2) o1)) : SC P Q n0 w0 c e Rs := by
  refine sc_opn (k := 7003) (fun o : Option (Nat × List Value) × Option (Nat × List Value) => (o.1 = none → row = []) ∧ (o.2 = none ↔ runs = [])) (fun o => hall ((p, pts p (mk (bufV row.length o.1) (bufV runs.length o.2))) :: oR (rG row) (oR (iG runs) [] o.2) o.1)) (fun x hx => hx) fun o ho => ?_
  refine sc_ent (Ent.hall_open 7003 _ _) ?_
  have := q o.1 o.2 ho.1 ho.2
  rw [List.cons_append, oR_app, oR_app]
  exact this
theorem ORow.close {p : Nat} {mk : Value → Value → Obj} {row runs : List Int} {o1 o2 : Option (Nat × List Value)} (h1 : o1 = none → row = []) (h2 : o2 = none ↔ runs = []) :
    Ent ((p, pts p (mk (bufV row.length o1) (bufV runs.length o2))) :: oR (rG row) (oR (iG runs) F o2) o1) ((7003, ORow p mk row runs) :: F) := by
  have h3 := Ent.hall_close 7003 ((p, pts p (mk (bufV row.length o1) (bufV runs.length o2))) :: oR (rG row) (oR (iG runs) [] o2) o1) F
  rw [List.cons_append, oR_app, oR_app] at h3
  exact h3.trans (Ent.head fun h hh => ⟨(o1, o2), ⟨h1, h2⟩, hh⟩)
end

/-! the log's small functions -/
section
variable (p d f n : Nat) (run began base : Int) (mr ml : Nat) (o1 : Option (Nat × List Value)) (vruns : Value) (m : Mk) (o3 : Option (Nat × Nat × List Value)) (sure flushed : Int) (dirty : Bool)
theorem wEnd_ok (ho : o1 = none → mr = 0) (hb : 0 ≤ base ∧ base ≤ 9007199254740992 ∧ mr ≤ 140737488355328) (vl : Value) : Spec Try.prog 75 [.pointer (some ⟨p, 0, none⟩)] [p] [pts p (lobj d f n run began base (bufV mr o1) vruns m vl sure flushed dirty)]
    fun F w Rs' => w = .int .i64 (base * 482 + mr) ∧ Rs' = (p, pts p (lobj d f n run began base (bufV mr o1) vruns m vl sure flushed dirty)) :: F := by
  refine spec_of Try.func75 rfl Try.ntmps75 rfl ?_
  intro w0 F
  repeat' (first | with_reducible (first | refine go1 ?_ | refine sct ?_ | refine scf ?_ | refine sgr ?_) | fail)
  refine sc_lin ([(p, pts p (lobj d f n run began base (bufV mr o1) vruns m vl sure flushed dirty))]) (llp 0 (llp 1 (llp 2 (llp 3 (llp 4 (llp 5 (llp 6 (llp 7 (llp 8 (llp 9 (llp 10 (llp 11 ll0)))))))))))) (by kernel_rfl) rfl (by kernel_rfl) ?_
  all_goals (iterate 4 refine go1l ?_)
  all_goals (first | refine sl_in (by omega) ?_ | refine go1l ?_)
  all_goals (iterate 4 refine go1l ?_)
  all_goals refine sl_take (h := runop_lenV o1 ho) ?_
  all_goals (first | refine sl_in (by omega) ?_ | refine go1l ?_)
  all_goals refine go1l ?_
  all_goals refine sl_done ?_
  repeat' (first | with_reducible (first | refine go1 ?_ | refine sct ?_ | refine scf ?_ | refine sgr ?_) | fail)
  refine sq_ret1 Try.results75 ?_
  exact ⟨_, ⟨rfl, rfl⟩, Ent.refl _⟩
theorem wNext_ok (ho : o3 = none → ml = 0) (hb : 0 ≤ m.number ∧ m.number ≤ 9007199254740992 ∧ ml ≤ 140737488355328) (vrow : Value) : Spec Try.prog 76 [.pointer (some ⟨p, 0, none⟩)] [p] [pts p (lobj d f n run began base vrow vruns m (nV ml o3) sure flushed dirty)]
    fun F w Rs' => w = .int .i64 (m.number + ml) ∧ Rs' = (p, pts p (lobj d f n run began base vrow vruns m (nV ml o3) sure flushed dirty)) :: F := by
  refine spec_of Try.func76 rfl Try.ntmps76 rfl ?_
  intro w0 F
  repeat' (first | with_reducible (first | refine go1 ?_ | refine sct ?_ | refine scf ?_ | refine sgr ?_) | fail)
  refine sc_lin ([(p, pts p (lobj d f n run began base vrow vruns m (nV ml o3) sure flushed dirty))]) (llp 0 (llp 1 (llp 2 (llp 3 (llp 4 (llp 5 (llp 6 (llp 7 (llp 8 (llp 9 (llp 10 (llp 11 ll0)))))))))))) (by kernel_rfl) rfl (by kernel_rfl) ?_
  all_goals (iterate 9 refine go1l ?_)
  all_goals refine sl_take (h := runop_lenNV o3 ho) ?_
  all_goals (first | refine sl_in (by omega) ?_ | refine go1l ?_)
  all_goals refine go1l ?_
  all_goals refine sl_done ?_
  repeat' (first | with_reducible (first | refine go1 ?_ | refine sct ?_ | refine scf ?_ | refine sgr ?_) | fail)
  refine sq_ret1 Try.results76 ?_
  exact ⟨_, ⟨rfl, rfl⟩, Ent.refl _⟩
end

/-! records -/
def rcs (r : (Int × List Int) × Value) : List Value := [.int .i64 r.1.1, r.2]
def rall (rs : List ((Int × List Int) × Value)) : List Value := rs.flatMap rcs
def rbag (rs : List ((Int × List Int) × Value)) : List (Value × List Int) := rs.map fun r => (r.2, r.1.2)
theorem rall_len (rs : List ((Int × List Int) × Value)) : (rall rs).length = rs.length * 2 := by
  induction rs with
  | nil => rfl
  | cons m ms ih => unfold rall at ih ⊢; rw [List.flatMap_cons, List.length_append, ih, List.length_cons]; show 2 + _ = _; omega
theorem rall_snoc (rs : List ((Int × List Int) × Value)) (r : (Int × List Int) × Value) : rall (rs ++ [r]) = rall rs ++ rcs r := by unfold rall; rw [List.flatMap_append]; simp
theorem rbag_snoc (rs : List ((Int × List Int) × Value)) (r : (Int × List Int) × Value) : rbag (rs ++ [r]) = rbag rs ++ [(r.2, r.1.2)] := by unfold rbag; rw [List.map_append]; rfl
theorem rcs_one {r : (Int × List Int) × Value} (h : r.2.oneCell' = true) : ∀ v ∈ rcs r, v.oneCell' = true := by
  intro v hv
  simp only [rcs, List.mem_cons, List.not_mem_nil, or_false] at hv
  rcases hv with rfl | rfl <;> first | rfl | exact h
/-- a frame's end -/
theorem unfr_end {bs : List Int} (hb : Byt bs) (h : (unfr bs).1 = 0) : 4 ≤ (unfr bs).2.2 ∧ (unfr bs).2.2 ≤ bs.length ∧ (unfr bs).2.1.length ≤ bs.length ∧ Byt (unfr bs).2.1 := by
  have h1 := takeInt_ok hb
  unfold unfr at h ⊢
  split at h
  · rename_i h2
    exact absurd h h2
  · rename_i h2
    rw [if_neg h2]
    unfold unfrK at h ⊢
    generalize takeInt bs = T at *
    split at h
    · cases h
    rename_i g1
    split at h
    · cases h
    rename_i g2
    split at h
    · cases h
    rename_i g3
    split at h
    · cases h
    rename_i g4
    rw [if_neg g1, if_neg g2, if_neg g3, if_neg g4]
    simp only
    refine ⟨by omega, by omega, by rw [List.length_take, List.length_drop]; omega, hb.sub _ _⟩
theorem rowF_in {base : Int} : ∀ {xs : List Fnd} {row runs : List Int}, (∀ x ∈ xs, x.Wf) → Byt row → (∀ y ∈ runs, 0 ≤ y ∧ y ≤ 1099511627776) →
    (rowF base xs row runs).1.length ≤ row.length + xs.length * 482 ∧ (rowF base xs row runs).2.length ≤ runs.length + xs.length ∧ Byt (rowF base xs row runs).1 ∧ ∀ y ∈ (rowF base xs row runs).2, 0 ≤ y ∧ y ≤ 1099511627776
  | [], row, runs, _, hb, hr => by rw [rowF]; exact ⟨Nat.le_add_right _ _, Nat.le_add_right _ _, hb, hr⟩
  | x :: xs, row, runs, hx, hb, hr => by
    rw [rowF]
    have h1 := hx x List.mem_cons_self
    split
    · refine ⟨?_, Nat.le_add_right _ _, fun y hy => hb y (List.mem_of_mem_take hy), hr⟩
      simp only
      rw [List.length_take]
      omega
    · have h2 := rowF_in (base := base) (xs := xs) (row := row ++ x.data) (runs := runs ++ [x.run]) (fun y hy => hx y (List.mem_cons_of_mem _ hy)) (hb.app h1.2.2.2.2) (fun y hy => by
        rcases List.mem_append.1 hy with h | h
        · exact hr y h
        · rw [List.mem_singleton.1 h]; exact h1.2.1)
      obtain ⟨a1, a2, a3, a4⟩ := h2
      rw [List.length_append] at a1
      rw [List.length_append, List.length_singleton] at a2
      have h3 := h1.2.2.2.1
      rw [List.length_cons]
      exact ⟨by omega, by omega, a3, a4⟩

/-! a buffer's beginning, cloned -/
theorem clBV_none (k : Nat) (r : HProp) (xs : List Int) (K : Nat) (h : xs = []) : Spec Try.prog 59 [bufV (xs.take K).length (cutO .u8 xs K none)] [k] [r] fun F w Rs' => w = bufV (xs.take K).length none ∧ Rs' = (k, r) :: F := by
  subst h
  show Spec Try.prog 59 [.slice none 0 0] [k] [r] _
  refine (clB_ok k r none 0 0 [] (reads_nil _ _) (fun v hv => by cases hv) rfl (by omega)).mono fun F w Rs' => ?_
  rintro (⟨_, rfl, rfl⟩ | ⟨h, _⟩)
  · exact ⟨rfl, rfl⟩
  · exact absurd rfl h
theorem clBV_some (xs : List Int) (K b : Nat) (r : List Value) (hK : xs.length ≤ 140737488355328) : Spec Try.prog 59 [bufV (xs.take K).length (cutO .u8 xs K (some (b, r)))] [b] [pts b (.cells (xs.map (Value.int .u8) ++ r).toArray 5 (0, 0))]
    fun F w Rs' => ∃ b3 t3, w = bufV (xs.take K).length (some (b3, t3)) ∧ Rs' = (b3, pts b3 (.cells ((xs.take K).map (Value.int .u8) ++ t3).toArray 5 (0, 0))) :: (b, pts b (.cells (xs.map (Value.int .u8) ++ r).toArray 5 (0, 0))) :: F := by
  have hr : Reads (pts b (.cells (xs.map (Value.int .u8) ++ r).toArray 5 (0, 0))) (some ⟨b, 0, none⟩) ((xs.take K).map (Value.int .u8)) := reads_pts fun j v hj => by
    rw [Nat.zero_add]
    rw [List.getElem?_map, List.getElem?_take] at hj
    split at hj
    · rw [← List.getElem?_map] at hj
      rw [List.getElem?_append_left (List.getElem?_eq_some_iff.1 hj).1]; exact hj
    · simp at hj
  refine (clB_ok b _ (some ⟨b, 0, none⟩) (xs.take K).length _ ((xs.take K).map (Value.int .u8)) hr (one_ints _ _) (by rw [List.length_map]) (by rw [List.length_take]; omega)).mono fun F w Rs' => ?_
  rintro (⟨h, _⟩ | ⟨_, b3, t3, rfl, rfl⟩)
  · cases h
  · exact ⟨b3, t3, rfl, rfl⟩
/-! the log, as it lies there -/
structure Lg.Wf (L : Lg) : Prop where
  n1 : 2 ≤ L.n ∧ L.n ≤ 16384 ∧ L.f ≤ 16384
  first : L.first.Ok
  base : L.base = L.first.sector
  row : L.row.length ≤ L.n * 482
  byt : Byt L.row
  recs : ∀ r ∈ L.l, Byt r.2 ∧ r.2.length ≤ 65536
  many : L.l.length ≤ 2199023255552
  run : 1 ≤ L.run ∧ L.run ≤ 1099511627777
  began : 0 ≤ L.began ∧ L.began ≤ 9007199254740992
  runs : L.runs.length ≤ L.n + 1 ∧ ∀ y ∈ L.runs, -1 ≤ y ∧ y ≤ 1099511627777
  sure : 0 ≤ L.sure ∧ L.sure ≤ 9007199254740992
  flushed : 0 ≤ L.flushed ∧ L.flushed ≤ 9007199254740992
def LOG (p : Nat) (L : Lg) : HProp := fun h => ∃ o : Option (Nat × List Value) × Option (Nat × List Value) × Option (Nat × Nat × List Value) × List ((Int × List Int) × Value),
  (L.Wf ∧ (o.1 = none → L.row = []) ∧ (o.2.1 = none → L.runs = []) ∧ NOk 2 (rall o.2.2.2) o.2.2.2.length o.2.2.1 ∧ o.2.2.2.map Prod.fst = L.l) ∧
  hall ((p, pts p (lobj L.d L.f L.n L.run L.began L.base (bufV L.row.length o.1) (bufV L.runs.length o.2.1) L.first (nV o.2.2.2.length o.2.2.1) L.sure L.flushed L.dirty)) :: oR (rG L.row) (oR (iG L.runs) (oR (nG 122 (rall o.2.2.2)) [(7002, Bag (rbag o.2.2.2))] o.2.2.1) o.2.1) o.1) h
section
variable {P : Program} {ops : List Oper} {l : List Oper} {Q : Cont} {n0 : Nat} {w0 : World} {e : Env} {Rs F : List Res}
theorem LOG.sc {c : Code} (p : Nat) (L : Lg) [tk : Take Rs p (LOG p L) F]
    (q : ∀ o1 o2 o3 (rs : List ((Int × List Int) × Value)), L.Wf → (o1 = none → L.row = []) → (o2 = none → L.runs = []) → NOk 2 (rall rs) rs.length o3 → rs.map Prod.fst = L.l →
      SC P Q n0 w0 c e ((p, pts p (lobj L.d L.f L.n L.run L.began L.base (bufV L.row.length o1) (bufV L.runs.length o2) L.first (nV rs.length o3) L.sure L.flushed L.dirty)) :: oR (rG L.row) (oR (iG L.runs) (oR (nG 122 (rall rs)) ((7002, Bag (rbag rs)) :: F) o3) o2) o1)) : SC P Q n0 w0 c e Rs := by
  refine sc_opn (k := p) (fun o : Option (Nat × List Value) × Option (Nat × List Value) × Option (Nat × Nat × List Value) × List ((Int × List Int) × Value) => L.Wf ∧ (o.1 = none → L.row = []) ∧ (o.2.1 = none → L.runs = []) ∧ NOk 2 (rall o.2.2.2) o.2.2.2.length o.2.2.1 ∧ o.2.2.2.map Prod.fst = L.l)
    (fun o => hall ((p, pts p (lobj L.d L.f L.n L.run L.began L.base (bufV L.row.length o.1) (bufV L.runs.length o.2.1) L.first (nV o.2.2.2.length o.2.2.1) L.sure L.flushed L.dirty)) :: oR (rG L.row) (oR (iG L.runs) (oR (nG 122 (rall o.2.2.2)) [(7002, Bag (rbag o.2.2.2))] o.2.2.1) o.2.1) o.1)) (fun x hx => hx) fun o ho => ?_
  refine sc_ent (Ent.hall_open p _ _) ?_
  obtain ⟨o1, o2, o3, rs⟩ := o
  have := q o1 o2 o3 rs ho.1 ho.2.1 ho.2.2.1 ho.2.2.2.1 ho.2.2.2.2
  rw [List.cons_append, oR_app, oR_app, oR_app]
  exact this
theorem LOG.sw (p : Nat) (L : Lg) [tk : Take Rs p (LOG p L) F]
    (q : ∀ o1 o2 o3 (rs : List ((Int × List Int) × Value)), L.Wf → (o1 = none → L.row = []) → (o2 = none → L.runs = []) → NOk 2 (rall rs) rs.length o3 → rs.map Prod.fst = L.l →
      SW P ops Q n0 w0 l e ((p, pts p (lobj L.d L.f L.n L.run L.began L.base (bufV L.row.length o1) (bufV L.runs.length o2) L.first (nV rs.length o3) L.sure L.flushed L.dirty)) :: oR (rG L.row) (oR (iG L.runs) (oR (nG 122 (rall rs)) ((7002, Bag (rbag rs)) :: F) o3) o2) o1)) : SW P ops Q n0 w0 l e Rs := by
  refine sw_opn (k := p) (fun o : Option (Nat × List Value) × Option (Nat × List Value) × Option (Nat × Nat × List Value) × List ((Int × List Int) × Value) => L.Wf ∧ (o.1 = none → L.row = []) ∧ (o.2.1 = none → L.runs = []) ∧ NOk 2 (rall o.2.2.2) o.2.2.2.length o.2.2.1 ∧ o.2.2.2.map Prod.fst = L.l)
    (fun o => hall ((p, pts p (lobj L.d L.f L.n L.run L.began L.base (bufV L.row.length o.1) (bufV L.runs.length o.2.1) L.first (nV o.2.2.2.length o.2.2.1) L.sure L.flushed L.dirty)) :: oR (rG L.row) (oR (iG L.runs) (oR (nG 122 (rall o.2.2.2)) [(7002, Bag (rbag o.2.2.2))] o.2.2.1) o.2.1) o.1)) (fun x hx => hx) fun o ho => ?_
  refine sw_ent (Ent.hall_open p _ _) ?_
  obtain ⟨o1, o2, o3, rs⟩ := o
  have := q o1 o2 o3 rs ho.1 ho.2.1 ho.2.2.1 ho.2.2.2.1 ho.2.2.2.2
  rw [List.cons_append, oR_app, oR_app, oR_app]
  exact this
theorem LOG.close {p : Nat} {L : Lg} {o1 o2 : Option (Nat × List Value)} {o3 : Option (Nat × Nat × List Value)} {rs : List ((Int × List Int) × Value)} (hw : L.Wf) (h1 : o1 = none → L.row = []) (h2 : o2 = none → L.runs = []) (h3 : NOk 2 (rall rs) rs.length o3) (h4 : rs.map Prod.fst = L.l) :
    Ent ((p, pts p (lobj L.d L.f L.n L.run L.began L.base (bufV L.row.length o1) (bufV L.runs.length o2) L.first (nV rs.length o3) L.sure L.flushed L.dirty)) :: oR (rG L.row) (oR (iG L.runs) (oR (nG 122 (rall rs)) ((7002, Bag (rbag rs)) :: F) o3) o2) o1) ((p, LOG p L) :: F) := by
  have h5 := Ent.hall_close p ((p, pts p (lobj L.d L.f L.n L.run L.began L.base (bufV L.row.length o1) (bufV L.runs.length o2) L.first (nV rs.length o3) L.sure L.flushed L.dirty)) :: oR (rG L.row) (oR (iG L.runs) (oR (nG 122 (rall rs)) [(7002, Bag (rbag rs))] o3) o2) o1) F
  rw [List.cons_append, oR_app, oR_app, oR_app] at h5
  exact h5.trans (Ent.head fun h hh => ⟨(o1, o2, o3, rs), ⟨hw, h1, h2, h3, h4⟩, hh⟩)
end
/-- the sectors that a log finds -/
def fndsOf (s : Dk) (f n : Nat) : List Fnd := (List.range n).map fun i => fndOf s f i
theorem fndsOf_len (s : Dk) (f n : Nat) : (fndsOf s f n).length = n := by unfold fndsOf; rw [List.length_map, List.length_range]
theorem fndsOf_eq {s : Dk} {f n : Nat} {ms : List (Fnd × Value)} (hl : ms.length = n) (h : ∀ i < n, (ms[i]?).map Prod.fst = some (fndOf s f i)) : ms.map Prod.fst = fndsOf s f n := by
  apply List.ext_getElem?
  intro i
  rw [List.getElem?_map]
  rcases Nat.lt_or_ge i n with hi | hi
  · rw [h i hi]
    unfold fndsOf
    rw [List.getElem?_map, List.getElem?_range hi]
    rfl
  · rw [List.getElem?_eq_none (by omega), List.getElem?_eq_none (by rw [fndsOf_len]; omega)]
    rfl
theorem recF_in {base : Int} {row : List Int} (hb : Byt row) : ∀ {k at' : Nat} {l : List (Int × List Int)}, (∀ r ∈ l, Byt r.2 ∧ r.2.length ≤ 65536) → ∀ r ∈ (recF base row k at' l).1, Byt r.2 ∧ r.2.length ≤ 65536
  | 0, _, _, h => by rw [recF]; exact h
  | k + 1, at', l, h => by
    rw [recF]
    split
    · exact h
    split
    · exact h
    · rename_i h1 h2
      refine recF_in hb fun r hr => ?_
      rcases List.mem_append.1 hr with h3 | h3
      · exact h r h3
      · rw [List.mem_singleton.1 h3]
        have h4 : (unfr (row.drop at')).1 = 0 := Classical.not_not.1 fun h' => h2 (.inl h')
        exact ⟨(unfr_end (hb.dr at') h4).2.2.2, Nat.le_of_not_lt fun h' => h2 (.inr h')⟩
end Go.Gsl
