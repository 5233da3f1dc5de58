/- Masters' sectors. -/
import Derived.Test.YtbmdaiopnnmamaaGR
import Derived.Test.YtbmdaiopnnmamaaGE
import Derived.Test.YtbmdaiopnnmamaaGB
import Derived.Test.YtbmdaiopnnmamaaGD
import Derived.Test.YtbmdaiopnnmamaaGA
import Derived.SizedLaws
namespace Go.Gsl
set_option linter.unusedVariables false
open Go.Proofs

instance : Cells (.agg Try.zeroCells108) (List.replicate 512 (.int .u8 0)) := ⟨by kernel_rfl⟩

theorem Ms.b_len (m : Ms) : m.b.length ≤ 72 := intsB_len m.l
theorem Ms.b_byt (m : Ms) : Byt m.b := intsB_byt _
/-- a master's sector -/
def Ms.sec (m : Ms) : List Int := frame m.b ++ List.replicate (512 - (frame m.b).length) 0
theorem Ms.frame_len (m : Ms) : (frame m.b).length = m.b.length + 5 := by
  have h1 := m.b_len
  have h2 : width (m.b.length : Int) = 1 := by unfold width; rw [if_neg (by omega), if_neg (by omega)]
  rw [Go.Gsl.frame_len, h2]
  omega
theorem Ms.sec_len (m : Ms) : m.sec.length = 512 := by
  have h1 := m.b_len
  have h2 := m.frame_len
  unfold Ms.sec
  rw [List.length_append, List.length_replicate]
  omega
theorem Ms.sec_byt (m : Ms) : Byt m.sec := (frame_byt m.b_byt).app fun x hx => by rw [List.eq_of_mem_replicate hx]; omega

theorem mSector_ok (k : Nat) (r : HProp) (m : Ms) (hm : m.In) : Spec Try.prog 18 [.agg m.cs.toArray] [k] [r]
    fun F w Rs' => (m.chk ≠ 0 ∧ w = .tuple #[.slice none 0 0, .int .i64 m.chk] ∧ Rs' = (k, r) :: F) ∨ (m.chk = 0 ∧ ∃ b, w = .tuple #[.slice (some ⟨b, 0, none⟩) 512 512, .int .i64 0] ∧ Rs' = (b, pts b (.cells (m.sec.map (Value.int .u8)).toArray 108 (0, 0))) :: (k, r) :: F) := by
  refine spec_of Try.func18 rfl Try.ntmps18 rfl ?_
  intro w0 F
  have hbl := m.b_len
  have hfl := m.frame_len
  repeat' (first | with_reducible (first | refine go1 ?_ | refine sct ?_ | refine scf ?_ | refine sgr ?_) | fail)
  refine sw_box fun b1 => ?_
  repeat' (first | with_reducible (first | refine go1 ?_ | refine sct ?_ | refine scf ?_ | refine sgr ?_) | fail)
  refine sw_call (rcMaster_ok k r m hm) ?_
  rintro _ _ (⟨h, rfl, rfl⟩ | ⟨h, b, t, rfl, rfl⟩)
  · repeat' (first | with_reducible (first | refine go1 ?_ | refine sct ?_ | refine scf ?_ | refine sgr ?_) | (with_reducible refine sc_cond (fun h => ?_) (fun h => ?_)) <;> (try (exfalso; first | contradiction | omega | exact h Iff.rfl)) | fail)
    refine sq_ret2 Try.results18 ?_
    refine ⟨_, .inl ⟨h, rfl, rfl⟩, ?_⟩
    repeat' (first | with_reducible exact Ent.refl _ | with_reducible refine Ent.take_eq ?_ ?_ | rfl | with_reducible refine Ent.trans (Ent.drop _ _) ?_)
  · repeat' (first | with_reducible (first | refine go1 ?_ | refine sct ?_ | refine scf ?_ | refine sgr ?_) | (with_reducible refine sc_cond (fun h => ?_) (fun h => ?_)) <;> (try (exfalso; first | contradiction | omega | exact h Iff.rfl)) | fail)
    refine sw_call (cFrame_ok b _ _ m.b RdB.own m.b_byt (by omega)) ?_
    rintro _ _ (⟨h2, _, _⟩ | ⟨_, b2, t2, rfl, rfl⟩)
    · exfalso; omega
    repeat' (first | with_reducible (first | refine go1 ?_ | refine sct ?_ | refine scf ?_ | refine sgr ?_) | (with_reducible refine sc_cond (fun h => ?_) (fun h => ?_)) <;> (try (exfalso; first | contradiction | omega | exact h Iff.rfl)) | fail)
    refine sw_alloc fun b3 => ?_
    repeat' (first | with_reducible (first | refine go1 ?_ | refine sct ?_ | refine scf ?_ | refine sgr ?_) | fail)
    refine sw_sliceA ?_
    repeat' (first | with_reducible (first | refine go1 ?_ | refine sct ?_ | refine scf ?_ | refine sgr ?_) | fail)
    refine sw_copyT ((frame m.b).map (Value.int .u8)) (src_pts (b := b2)) (one_ints _ _) ⟨by rw [List.length_map]; omega, by rw [List.length_map, List.length_replicate]; omega⟩ ?_
    have e1 : (List.replicate 512 (Value.int .u8 0)).take 0 ++ (frame m.b).map (Value.int .u8) ++ (List.replicate 512 (Value.int .u8 0)).drop (0 + ((frame m.b).map (Value.int .u8)).length) = m.sec.map (Value.int .u8) := by
      unfold Ms.sec
      rw [List.take_zero, List.nil_append, List.drop_replicate, Nat.zero_add, List.length_map, List.map_append, List.map_replicate]
    rw [e1]
    repeat' (first | with_reducible (first | refine go1 ?_ | refine sct ?_ | refine scf ?_ | refine sgr ?_) | fail)
    refine sw_sliceA ?_
    repeat' (first | with_reducible (first | refine go1 ?_ | refine sct ?_ | refine scf ?_ | refine sgr ?_) | fail)
    refine sq_ret2 Try.results18 ?_
    refine ⟨_, .inr ⟨h, b3, rfl, rfl⟩, ?_⟩
    repeat' (first | with_reducible exact Ent.refl _ | with_reducible refine Ent.take_eq ?_ ?_ | rfl | with_reducible refine Ent.trans (Ent.drop _ _) ?_)

/-- where a master stands -/
def Ms.place (at' : Int) (m : Ms) : Int := at' + m.seq % 2
end Go.Gsl

namespace Go.Gsl
set_option linter.unusedVariables false
open Go.Proofs

theorem reads_own {b : Nat} {cs r : List Value} {t : TypeId} {fr : Nat × Nat} : Reads (pts b (.cells (cs ++ r).toArray t fr)) (some ⟨b, 0, none⟩) cs := reads_pts fun j v hj => by rw [Nat.zero_add, List.getElem?_append_left (List.getElem?_eq_some_iff.1 hj).1]; exact hj
theorem iand_1 {a : Int} : iand .i64 a 1 = a % 2 := by
  unfold iand
  show IntKind.i64.wrap (((BitVec.ofInt 64 a &&& BitVec.ofInt 64 1).toNat : Nat) : Int) = _
  have h1 : (BitVec.ofInt 64 1).toNat = 1 := by decide
  have h2 : (BitVec.ofInt 64 a).toNat = (a % 18446744073709551616).toNat := by rw [BitVec.toNat_ofInt]; rfl
  rw [BitVec.toNat_and, h1, Nat.and_one_is_mod, h2, IntWalk.i64_in _ (by omega)]
  omega

theorem mPlace_ok (a : Int) (m : Ms) (ha : -4611686018427387904 ≤ a ∧ a ≤ 4611686018427387904) : Spec Try.prog 27 [.int .i64 a, .agg m.cs.toArray] [] [] fun F v Rs' => v = .int .i64 (m.place a) ∧ Rs' = F := by
  refine spec_of Try.func27 rfl Try.ntmps27 rfl ?_
  intro w0 F
  repeat' (first | with_reducible (first | refine go1 ?_ | refine sct ?_ | refine scf ?_ | refine sgr ?_) | fail)
  refine sw_box fun b1 => ?_
  repeat' (first | with_reducible (first | refine go1 ?_ | refine sct ?_ | refine scf ?_ | refine sgr ?_) | fail)
  rw [iand_1, IntWalk.i64_in _ (by omega)]
  refine sq_ret1 Try.results27 ?_
  exact ⟨_, ⟨rfl, rfl⟩, Ent.drop _ _⟩

def wr (x : Int) : Int := IntKind.i64.wrap x
/-- the master behind another one -/
def Ms.next (m : Ms) (chunks ts sector offset number run : Int) : Ms := ⟨wr (m.seq + 1), wr (1 - m.area), chunks, ts, sector, offset, number, run⟩
theorem mNext_ok (m : Ms) (chunks ts s o u q : Int) : Spec Try.prog 25 [.agg m.cs.toArray, .int .i64 chunks, .int .i64 ts, .agg [.int .i64 s, .int .i64 o, .int .i64 u, .int .i64 q].toArray] [] [] fun F v Rs' => v = .agg (m.next chunks ts s o u q).cs.toArray ∧ Rs' = F := by
  refine spec_of Try.func25 rfl Try.ntmps25 rfl ?_
  intro w0 F
  repeat' (first | with_reducible (first | refine go1 ?_ | refine sct ?_ | refine scf ?_ | refine sgr ?_) | fail)
  refine sw_box fun b1 => ?_
  repeat' (first | with_reducible (first | refine go1 ?_ | refine sct ?_ | refine scf ?_ | refine sgr ?_) | fail)
  refine sw_box fun b2 => ?_
  repeat' (first | with_reducible (first | refine go1 ?_ | refine sct ?_ | refine scf ?_ | refine sgr ?_) | fail)
  refine sw_alloc fun b3 => ?_
  repeat' (first | with_reducible (first | refine go1 ?_ | refine sct ?_ | refine scf ?_ | refine sgr ?_) | fail)
  refine sw_build (m.next chunks ts s o u q).cs (by kernel_rfl) ?_
  refine sw_store_agg ?_
  repeat' (first | with_reducible (first | refine go1 ?_ | refine sct ?_ | refine scf ?_ | refine sgr ?_) | fail)
  refine sq_resA Try.results25 (by first | exact .inl rfl | exact .inr rfl) rfl ?_
  refine ⟨_, ⟨rfl, rfl⟩, ?_⟩
  repeat' (first | with_reducible exact Ent.refl _ | with_reducible refine Ent.take_eq ?_ ?_ | rfl | with_reducible refine Ent.trans (Ent.drop _ _) ?_)

theorem unfr_ok {bs : List Int} (hb : Byt bs) (h : (unfr bs).1 = 0) : ∃ K N : Nat, (unfr bs).2.1 = (bs.drop K).take N ∧ (unfr bs).2.2 = (K + N + 4 : Nat) ∧ K + N + 4 ≤ bs.length := by
  have htk := takeInt_ok hb
  unfold unfr unfrK at h ⊢
  generalize takeInt bs = T at htk h ⊢
  rcases T with ⟨n, K, e⟩
  simp only at htk h ⊢
  by_cases he : e ≠ 0
  · rw [if_pos he] at h; exact absurd h he
  · rw [if_neg he] at h ⊢
    obtain ⟨h1, h2, h3, h4, h5⟩ := htk (by omega)
    by_cases g1 : n < 0
    · rw [if_pos g1] at h; cases h
    · rw [if_neg g1] at h ⊢
      by_cases g2 : 1048576 < n
      · rw [if_pos g2] at h; cases h
      · rw [if_neg g2] at h ⊢
        by_cases g3 : (bs.length : Int) - K.toNat - 4 < n
        · rw [if_pos g3] at h; cases h
        · rw [if_neg g3] at h ⊢
          split at h
          · cases h
          · rename_i g4
            rw [if_neg g4]
            exact ⟨K.toNat, n.toNat, rfl, by simp only; omega, by omega⟩

/-- the master of a sector, and what is wrong -/
def parseM (bs : List Int) : Ms × Int :=
  if bs.length ≠ 512 then (Ms.zero, 200) else if (unfr bs).1 ≠ 0 then (Ms.zero, 200) else if (takeM (unfr bs).2.1).2 ≠ 0 then (Ms.zero, 200)
  else if ∀ x ∈ bs.drop (unfr bs).2.2.toNat, x = 0 then ((takeM (unfr bs).2.1).1, 0) else (Ms.zero, 200)

set_option maxHeartbeats 1000000 in
theorem mParse_ok (k : Nat) (r : HProp) (v : Value) (bs : List Int) (hv : RdB r v bs) (hb : Byt bs) :
    Spec Try.prog 20 [v] [k] [r] fun F w Rs' => w = .tuple #[.agg (parseM bs).1.cs.toArray, .int .i64 (parseM bs).2] ∧ Rs' = (k, r) :: F := by
  refine spec_of Try.func20 rfl Try.ntmps20 rfl ?_
  intro w0 F
  obtain ⟨a, c, rfl, hsome, hc, hr⟩ := hv.gen
  unfold parseM
  repeat' (first | with_reducible (first | refine go1 ?_ | refine sct ?_ | refine scf ?_ | refine sgr ?_) | fail)
  refine sw_alloc fun b0 => ?_
  repeat' (first | with_reducible (first | refine go1 ?_ | refine sct ?_ | refine scf ?_ | refine sgr ?_) | (with_reducible refine sc_cond (fun h => ?_) (fun h => ?_)) <;> (try (exfalso; first | contradiction | omega | exact h Iff.rfl)) | fail)
  · rw [if_pos (by omega)]
    refine sw_build Ms.zero.cs (by kernel_rfl) ?_
    refine sw_store_agg ?_
    repeat' (first | with_reducible (first | refine go1 ?_ | refine sct ?_ | refine scf ?_ | refine sgr ?_) | fail)
    refine sq_resAT Try.results20 (by first | exact .inl rfl | exact .inr rfl) rfl ?_
    refine ⟨_, ⟨rfl, rfl⟩, Ent.drop _ _⟩
  have h512 : bs.length = 512 := by omega
  have hl : bs.length ≤ 70368744177664 := by omega
  rw [if_neg (by omega)]
  have hun := unfr_ok hb
  refine sw_call (cUnframe_ok k r _ bs hv hb hl) ?_
  rintro _ _ (⟨he, rfl, rfl⟩ | ⟨he, b1, t1, rfl, rfl⟩)
  · rw [if_pos he]
    repeat' (first | with_reducible (first | refine go1 ?_ | refine sct ?_ | refine scf ?_ | refine sgr ?_) | (with_reducible refine sc_cond (fun h => ?_) (fun h => ?_)) <;> (try (exfalso; first | contradiction | omega | exact h Iff.rfl)) | fail)
    refine sw_build Ms.zero.cs (by kernel_rfl) ?_
    refine sw_store_agg ?_
    repeat' (first | with_reducible (first | refine go1 ?_ | refine sct ?_ | refine scf ?_ | refine sgr ?_) | fail)
    refine sq_resAT Try.results20 (by first | exact .inl rfl | exact .inr rfl) rfl ?_
    refine ⟨_, ⟨rfl, rfl⟩, ?_⟩
    repeat' (first | with_reducible exact Ent.refl _ | with_reducible refine Ent.take_eq ?_ ?_ | rfl | with_reducible refine Ent.trans (Ent.drop _ _) ?_)
  rw [if_neg (by omega)]
  obtain ⟨K, N, h1, h2, h3⟩ := hun he
  rw [h2, Int.toNat_natCast]
  have hub : Byt (unfr bs).2.1 := by rw [h1]; exact hb.sub _ _
  have hul : (unfr bs).2.1.length ≤ 512 := by rw [h1, List.length_take, List.length_drop]; omega
  generalize (unfr bs).2.1 = us at *
  repeat' (first | with_reducible (first | refine go1 ?_ | refine sct ?_ | refine scf ?_ | refine sgr ?_) | (with_reducible refine sc_cond (fun h => ?_) (fun h => ?_)) <;> (try (exfalso; first | contradiction | omega | exact h Iff.rfl)) | fail)
  refine sw_call (rcTakeMaster_ok b1 _ b1 0 (us.length + t1.length) us (by omega) reads_own hub (by omega)) ?_
  rintro _ _ ⟨rfl, rfl⟩
  repeat' (first | with_reducible (first | refine go1 ?_ | refine sct ?_ | refine scf ?_ | refine sgr ?_) | fail)
  refine sw_alloc fun b2 => ?_
  refine sw_store_agg ?_
  repeat' (first | with_reducible refine sw_in (by omega) ?_ | with_reducible (first | refine go1 ?_ | refine sct ?_ | refine scf ?_ | refine sgr ?_) | (with_reducible refine sc_cond (fun h => ?_) (fun h => ?_)) <;> (try (exfalso; first | contradiction | omega | exact h Iff.rfl)) | fail)
  · rw [if_pos h]
    refine sw_build Ms.zero.cs (by kernel_rfl) ?_
    refine sw_store_agg ?_
    repeat' (first | with_reducible (first | refine go1 ?_ | refine sct ?_ | refine scf ?_ | refine sgr ?_) | fail)
    refine sq_resAT Try.results20 (by first | exact .inl rfl | exact .inr rfl) rfl ?_
    refine ⟨_, ⟨rfl, rfl⟩, ?_⟩
    repeat' (first | with_reducible exact Ent.refl _ | with_reducible refine Ent.take_eq ?_ ?_ | rfl | with_reducible refine Ent.trans (Ent.drop _ _) ?_)
  rw [if_neg h]
  obtain ⟨b, o, rfl⟩ := hsome (by omega)
  repeat' (first | with_reducible refine sw_in (by omega) ?_ | with_reducible (first | refine go1 ?_ | refine sct ?_ | refine scf ?_ | refine sgr ?_) | fail)
  refine sc_loop (α := { i : Nat // i ≤ 512 - (K + N + 4) ∧ ∀ j, j < i → bs[K + N + 4 + j]? = some 0 }) (fun i => [(0, .slice (some ⟨b, o, none⟩) bs.length c), (2, .pointer (some ⟨b0, 0, none⟩)), (5, .int .i64 ((K + N + 4 : Nat) : Int)), (7, .pointer (some ⟨b2, 0, none⟩)), (33, .int .i64 ((bs.length : Int) - ((K + N + 4 : Nat) : Int))), (34, .int .i64 (i.1 : Int))])
    (fun _ => (b2, pts b2 (.cells (takeM us).1.cs.toArray 34 (0, 0))) :: (b0, pts b0 (.cells Ms.zero.cs.toArray 34 (0, 0))) :: (k, r) :: F) (fun i => 512 - i.1) ⟨0, Nat.zero_le _, fun j h => by omega⟩ ?_ ?_ ?_
  · repeat' (first | exact says_nil | refine says_cons rfl ?_ | refine says_cons (by simp) ?_)
  · repeat' (first | with_reducible exact Ent.refl _ | with_reducible refine Ent.take_eq ?_ ?_ | rfl | with_reducible refine Ent.trans (Ent.drop _ _) ?_)
  rintro ⟨i, hi, hz⟩ e
  (try simp only at hi hz)
  simp only [List.cons_append, List.nil_append]
  repeat' (first | with_reducible refine sw_in (by omega) ?_ | with_reducible (first | refine go1 ?_ | refine sct ?_ | refine scf ?_ | refine sgr ?_) | (with_reducible refine sc_cond (fun h => ?_) (fun h => ?_)) <;> (try (exfalso; first | contradiction | omega | exact h Iff.rfl)) | fail)
  · have hi2 : K + N + 4 + i < bs.length := by omega
    have hri : bs[K + N + 4 + i]? = some bs[K + N + 4 + i] := List.getElem?_eq_getElem hi2
    refine sw_index (by omega) ?_
    refine sw_load_rd k (K + N + 4 + i) (.int .u8 bs[K + N + 4 + i]) hr (by rw [List.getElem?_map, hri]; rfl) (by omega) ?_
    generalize bs[K + N + 4 + i] = y at *
    repeat' (first | with_reducible refine sw_in (by omega) ?_ | with_reducible (first | refine go1 ?_ | refine sct ?_ | refine scf ?_ | refine sgr ?_) | (with_reducible refine sc_cond (fun h => ?_) (fun h => ?_)) <;> (try (exfalso; first | contradiction | omega | exact h Iff.rfl)) | fail)
    · refine sw_build Ms.zero.cs (by kernel_rfl) ?_
      refine sw_store_agg ?_
      repeat' (first | with_reducible (first | refine go1 ?_ | refine sct ?_ | refine scf ?_ | refine sgr ?_) | fail)
      refine sq_resAT Try.results20 (by first | exact .inl rfl | exact .inr rfl) rfl ?_
      refine ⟨_, ⟨?_, rfl⟩, ?_⟩
      · rw [if_neg]
        intro h9
        have : y ∈ bs.drop (K + N + 4) := List.mem_of_getElem? (i := i) (by rw [List.getElem?_drop]; exact hri)
        exact ‹¬y = 0› (h9 y this)
      · repeat' (first | with_reducible exact Ent.refl _ | with_reducible refine Ent.take_eq ?_ ?_ | rfl | with_reducible refine Ent.trans (Ent.drop _ _) ?_)
    · have hy : y = 0 := by omega
      subst hy
      refine sq_round ⟨i + 1, by omega, fun j hj => ?_⟩ ?_ ?_ ?_
      · rcases Nat.lt_succ_iff_lt_or_eq.1 hj with h | rfl
        · exact hz j h
        · exact hri
      · show 512 - (i + 1) < 512 - i
        omega
      · repeat' (first | exact says_nil | refine says_cons rfl ?_ | refine says_cons (by simp) ?_)
      · exact Ent.refl _
  · refine sw_store_agg ?_
    repeat' (first | with_reducible (first | refine go1 ?_ | refine sct ?_ | refine scf ?_ | refine sgr ?_) | fail)
    refine sq_resAT Try.results20 (by first | exact .inl rfl | exact .inr rfl) rfl ?_
    refine ⟨_, ⟨?_, rfl⟩, ?_⟩
    · rw [if_pos]
      intro x hx
      obtain ⟨j, hj⟩ := List.mem_iff_getElem?.1 hx
      rw [List.getElem?_drop] at hj
      have hlt := (List.getElem?_eq_some_iff.1 hj).1
      rw [hz j (by omega)] at hj
      injection hj with hj
      exact hj.symm
    · repeat' (first | with_reducible exact Ent.refl _ | with_reducible refine Ent.take_eq ?_ ?_ | rfl | with_reducible refine Ent.trans (Ent.drop _ _) ?_)
end Go.Gsl

namespace Go.Gsl
set_option linter.unusedVariables false
open Go.Proofs

/-- a disk that can be read: what its sectors are, what is wrong -/
def RdSpec (v : Value) (k : Nat) (r : HProp) (f : Int → List Int × Int) : Prop := ∀ a : Int, Spec Try.prog 65 [v, .int .i64 a] [k] [r] fun F w Rs' => ((f a).2 ≠ 0 ∧ w = .tuple #[.slice none 0 0, .int .i64 (f a).2] ∧ Rs' = (k, r) :: F) ∨
  ((f a).2 = 0 ∧ Byt (f a).1 ∧ (f a).1.length = 512 ∧ ∃ b, w = .tuple #[.slice (some ⟨b, 0, none⟩) (f a).1.length (f a).1.length, .int .i64 0] ∧ Rs' = (b, pts b (.cells ((f a).1.map (Value.int .u8)).toArray 5 (0, 0))) :: (k, r) :: F)

/-- what one of both sectors says -/
def one (f : Int → List Int × Int) (at' i : Int) : Ms × Int :=
  if (f (at' + i)).2 ≠ 0 then (Ms.zero, (f (at' + i)).2) else if (parseM (f (at' + i)).1).2 ≠ 0 then parseM (f (at' + i)).1
  else if (parseM (f (at' + i)).1).1.place at' ≠ at' + i then (Ms.zero, 200) else parseM (f (at' + i)).1

abbrev mrow (a b : Ms) : List Value := [.int .i64 a.seq, .int .i64 a.area, .int .i64 a.chunks, .int .i64 a.ts, .int .i64 a.sector, .int .i64 a.offset, .int .i64 a.number, .int .i64 a.run, .int .i64 b.seq, .int .i64 b.area, .int .i64 b.chunks, .int .i64 b.ts, .int .i64 b.sector, .int .i64 b.offset, .int .i64 b.number, .int .i64 b.run]
abbrev erow (a b : Int) : List Value := [.int .i64 a, .int .i64 b]


set_option maxHeartbeats 1000000 in
theorem mBoth_ok (v : Value) (k : Nat) (r : HProp) (f : Int → List Int × Int) (hf : RdSpec v k r f) (a : Int) (ha : -4611686018427387904 ≤ a ∧ a ≤ 4611686018427387000) :
    Spec Try.prog 23 [v, .int .i64 a] [k] [r] fun F w Rs' => w = .tuple #[.agg (mrow (one f a 0).1 (one f a 1).1).toArray, .agg (erow (one f a 0).2 (one f a 1).2).toArray] ∧ Rs' = (k, r) :: F := by
  refine spec_of Try.func23 rfl Try.ntmps23 rfl ?_
  intro w0 F
  repeat' (first | with_reducible (first | refine go1 ?_ | refine sct ?_ | refine scf ?_ | refine sgr ?_) | fail)
  refine sw_alloc fun b4 => ?_
  repeat' (first | with_reducible (first | refine go1 ?_ | refine sct ?_ | refine scf ?_ | refine sgr ?_) | fail)
  refine sw_alloc fun b5 => ?_
  repeat' (first | with_reducible (first | refine go1 ?_ | refine sct ?_ | refine scf ?_ | refine sgr ?_) | fail)
  refine sw_alloc fun b6 => ?_
  repeat' (first | with_reducible (first | refine go1 ?_ | refine sct ?_ | refine scf ?_ | refine sgr ?_) | fail)
  refine sw_alloc fun b7 => ?_
  repeat' (first | with_reducible (first | refine go1 ?_ | refine sct ?_ | refine scf ?_ | refine sgr ?_) | fail)
  refine sc_loop (α := { i : Nat // i ≤ 2 }) (fun i => [(0, v), (1, .int .i64 a), (4, .pointer (some ⟨b4, 0, none⟩)), (5, .pointer (some ⟨b5, 0, none⟩)), (6, .pointer (some ⟨b6, 0, none⟩)), (7, .pointer (some ⟨b7, 0, none⟩)), (11, .int .i64 (i.1 : Int))])
    (fun i => (b7, pts b7 (.cells (erow (if 0 < i.1 then (one f a 0).2 else 0) (if 1 < i.1 then (one f a 1).2 else 0)).toArray 50 (0, 0))) :: (b6, pts b6 (.cells (mrow (if 0 < i.1 then (one f a 0).1 else Ms.zero) (if 1 < i.1 then (one f a 1).1 else Ms.zero)).toArray 49 (0, 0))) ::
      (b5, pts b5 (.cells (erow 0 0).toArray 50 (0, 0))) :: (b4, pts b4 (.cells (mrow Ms.zero Ms.zero).toArray 49 (0, 0))) :: (k, r) :: F) (fun i => 2 - i.1) ⟨0, Nat.zero_le _⟩ ?_ ?_ ?_
  · repeat' (first | exact says_nil | refine says_cons rfl ?_ | refine says_cons (by simp) ?_)
  · exact Ent.refl _
  rintro ⟨i, hi⟩ e
  (try simp only at hi)
  simp only [List.cons_append, List.nil_append]
  rcases Nat.lt_or_ge i 2 with hlt | hge
  · rcases (show i = 0 ∨ i = 1 by omega) with rfl | rfl
    · simp only [Nat.lt_irrefl, show ¬ (1 < 0) by omega, if_false]
      rw [show ((0 : Nat) : Int) = 0 from rfl]
      repeat' (first | with_reducible refine sw_in (by omega) ?_ | with_reducible (first | refine go1 ?_ | refine sct ?_ | refine scf ?_ | refine sgr ?_) | (with_reducible refine sc_cond (fun h => ?_) (fun h => ?_)) <;> (try (exfalso; first | contradiction | omega | exact h Iff.rfl)) | fail)
      refine sw_call (hf (a + 0)) ?_
      rintro _ _ (⟨he, rfl, rfl⟩ | ⟨he, hby, h5, b, rfl, rfl⟩)
      · have h1 : one f a 0 = (Ms.zero, (f (a + 0)).2) := by unfold one; rw [if_pos he]
        repeat' (first | with_reducible refine sw_in (by omega) ?_ | with_reducible (first | refine go1 ?_ | refine sct ?_ | refine scf ?_ | refine sgr ?_) | with_reducible refine sw_guard_skip_u ?_ | (with_reducible refine sc_cond (fun h => ?_) (fun h => ?_)) <;> (try (exfalso; first | contradiction | omega | exact h Iff.rfl)) | (with_reducible refine sw_guard_split (fun h => ?_) (fun h => ?_)) <;> (try (exfalso; first | contradiction | omega | exact h Iff.rfl)) | (with_reducible refine sw_pick (fun h => ?_) (fun h => ?_)) <;> (try (exfalso; first | contradiction | omega | exact h Iff.rfl)) | fail)
        refine sw_indexA 0 0 ⟨rfl, by omega, by omega⟩ rfl ?_
        refine sw_store ?_
        repeat' (first | with_reducible refine sw_in (by omega) ?_ | with_reducible (first | refine go1 ?_ | refine sct ?_ | refine scf ?_ | refine sgr ?_) | fail)
        refine sq_round ⟨0 + 1, by omega⟩ ?_ ?_ ?_
        · show 2 - (0 + 1) < 2 - 0
          omega
        · repeat' (first | exact says_nil | refine says_cons rfl ?_ | refine says_cons (by simp) ?_)
        · simp only [show (0 < 0 + 1) = True by simp, show ¬ (1 < 0 + 1) by omega, if_true, if_false]
          rw [h1]
          repeat' (first | with_reducible exact Ent.refl _ | with_reducible refine Ent.take_eq ?_ ?_ | rfl | with_reducible refine Ent.trans (Ent.drop _ _) ?_)
      · repeat' (first | with_reducible refine sw_in (by omega) ?_ | with_reducible (first | refine go1 ?_ | refine sct ?_ | refine scf ?_ | refine sgr ?_) | (with_reducible refine sc_cond (fun h => ?_) (fun h => ?_)) <;> (try (exfalso; first | contradiction | omega | exact h Iff.rfl)) | fail)
        refine sw_call (mParse_ok b _ _ (f (a + 0)).1 RdB.own0 hby) ?_
        rintro _ _ ⟨rfl, rfl⟩
        have h1 : one f a 0 = if (parseM (f (a + 0)).1).2 ≠ 0 then parseM (f (a + 0)).1 else if (parseM (f (a + 0)).1).1.place a ≠ a + 0 then (Ms.zero, 200) else parseM (f (a + 0)).1 := by unfold one; rw [if_neg (by omega)]
        generalize parseM (f (a + 0)).1 = q at *
        obtain ⟨q1, q2⟩ := q
        simp only at h1
        repeat' (first | with_reducible (first | refine go1 ?_ | refine sct ?_ | refine scf ?_ | refine sgr ?_) | fail)
        refine sw_indexA 0 (8 * 0) ⟨rfl, by omega, by omega⟩ rfl ?_
        refine sw_storePart (mrow q1 Ms.zero) (by show _ ≤ 16; omega) rfl ?_
        repeat' (first | with_reducible refine sw_in (by omega) ?_ | with_reducible (first | refine go1 ?_ | refine sct ?_ | refine scf ?_ | refine sgr ?_) | with_reducible refine sw_guard_skip_u ?_ | (with_reducible refine sc_cond (fun h => ?_) (fun h => ?_)) <;> (try (exfalso; first | contradiction | omega | exact h Iff.rfl)) | (with_reducible refine sw_guard_split (fun h => ?_) (fun h => ?_)) <;> (try (exfalso; first | contradiction | omega | exact h Iff.rfl)) | (with_reducible refine sw_pick (fun h => ?_) (fun h => ?_)) <;> (try (exfalso; first | contradiction | omega | exact h Iff.rfl)) | fail)
        · refine sw_indexA 0 (8 * 0) ⟨rfl, by omega, by omega⟩ rfl ?_
          repeat' (first | with_reducible (first | refine go1 ?_ | refine sct ?_ | refine scf ?_ | refine sgr ?_) | fail)
          refine sw_loadPart q1.cs rfl rfl ?_
          have hq2 : q2 = 0 := by omega
          rw [if_neg (by omega)] at h1
          repeat' (first | with_reducible (first | refine go1 ?_ | refine sct ?_ | refine scf ?_ | refine sgr ?_) | fail)
          refine sw_call (mPlace_ok a q1 (by omega)) ?_
          rintro _ _ ⟨rfl, rfl⟩
          repeat' (first | with_reducible refine sw_in (by omega) ?_ | with_reducible (first | refine go1 ?_ | refine sct ?_ | refine scf ?_ | refine sgr ?_) | (with_reducible refine sc_cond (fun h => ?_) (fun h => ?_)) <;> (try (exfalso; first | contradiction | omega | exact h Iff.rfl)) | fail)
          · rw [if_pos h] at h1
            refine sw_build Ms.zero.cs (by kernel_rfl) ?_
            refine sw_indexA 0 (8 * 0) ⟨rfl, by omega, by omega⟩ rfl ?_
            refine sw_storePart (mrow Ms.zero Ms.zero) (by show _ ≤ 16; omega) rfl ?_
            repeat' (first | with_reducible (first | refine go1 ?_ | refine sct ?_ | refine scf ?_ | refine sgr ?_) | fail)
            refine sw_indexA 0 0 ⟨rfl, by omega, by omega⟩ rfl ?_
            refine sw_store ?_
            repeat' (first | with_reducible refine sw_in (by omega) ?_ | with_reducible (first | refine go1 ?_ | refine sct ?_ | refine scf ?_ | refine sgr ?_) | fail)
            refine sq_round ⟨0 + 1, by omega⟩ ?_ ?_ ?_
            · show 2 - (0 + 1) < 2 - 0
              omega
            · repeat' (first | exact says_nil | refine says_cons rfl ?_ | refine says_cons (by simp) ?_)
            · simp only [show (0 < 0 + 1) = True by simp, show ¬ (1 < 0 + 1) by omega, if_true, if_false]
              rw [h1]
              repeat' (first | with_reducible exact Ent.refl _ | with_reducible refine Ent.take_eq ?_ ?_ | rfl | with_reducible refine Ent.trans (Ent.drop _ _) ?_)
          · rw [if_neg h] at h1
            refine sw_indexA 0 0 ⟨rfl, by omega, by omega⟩ rfl ?_
            refine sw_store ?_
            repeat' (first | with_reducible refine sw_in (by omega) ?_ | with_reducible (first | refine go1 ?_ | refine sct ?_ | refine scf ?_ | refine sgr ?_) | fail)
            refine sq_round ⟨0 + 1, by omega⟩ ?_ ?_ ?_
            · show 2 - (0 + 1) < 2 - 0
              omega
            · repeat' (first | exact says_nil | refine says_cons rfl ?_ | refine says_cons (by simp) ?_)
            · simp only [show (0 < 0 + 1) = True by simp, show ¬ (1 < 0 + 1) by omega, if_true, if_false]
              rw [h1]
              repeat' (first | with_reducible exact Ent.refl _ | with_reducible refine Ent.take_eq ?_ ?_ | rfl | with_reducible refine Ent.trans (Ent.drop _ _) ?_)
        · rw [if_pos h] at h1
          refine sw_indexA 0 0 ⟨rfl, by omega, by omega⟩ rfl ?_
          refine sw_store ?_
          repeat' (first | with_reducible refine sw_in (by omega) ?_ | with_reducible (first | refine go1 ?_ | refine sct ?_ | refine scf ?_ | refine sgr ?_) | fail)
          refine sq_round ⟨0 + 1, by omega⟩ ?_ ?_ ?_
          · show 2 - (0 + 1) < 2 - 0
            omega
          · repeat' (first | exact says_nil | refine says_cons rfl ?_ | refine says_cons (by simp) ?_)
          · simp only [show (0 < 0 + 1) = True by simp, show ¬ (1 < 0 + 1) by omega, if_true, if_false]
            rw [h1]
            repeat' (first | with_reducible exact Ent.refl _ | with_reducible refine Ent.take_eq ?_ ?_ | rfl | with_reducible refine Ent.trans (Ent.drop _ _) ?_)
    · simp only [show (0 < 1) = True by simp, Nat.lt_irrefl, if_true, if_false]
      rw [show ((1 : Nat) : Int) = 1 from rfl]
      repeat' (first | with_reducible refine sw_in (by omega) ?_ | with_reducible (first | refine go1 ?_ | refine sct ?_ | refine scf ?_ | refine sgr ?_) | (with_reducible refine sc_cond (fun h => ?_) (fun h => ?_)) <;> (try (exfalso; first | contradiction | omega | exact h Iff.rfl)) | fail)
      refine sw_call (hf (a + 1)) ?_
      rintro _ _ (⟨he, rfl, rfl⟩ | ⟨he, hby, h5, b, rfl, rfl⟩)
      · have h1 : one f a 1 = (Ms.zero, (f (a + 1)).2) := by unfold one; rw [if_pos he]
        repeat' (first | with_reducible refine sw_in (by omega) ?_ | with_reducible (first | refine go1 ?_ | refine sct ?_ | refine scf ?_ | refine sgr ?_) | with_reducible refine sw_guard_skip_u ?_ | (with_reducible refine sc_cond (fun h => ?_) (fun h => ?_)) <;> (try (exfalso; first | contradiction | omega | exact h Iff.rfl)) | (with_reducible refine sw_guard_split (fun h => ?_) (fun h => ?_)) <;> (try (exfalso; first | contradiction | omega | exact h Iff.rfl)) | (with_reducible refine sw_pick (fun h => ?_) (fun h => ?_)) <;> (try (exfalso; first | contradiction | omega | exact h Iff.rfl)) | fail)
        refine sw_indexA 1 1 ⟨rfl, by omega, by omega⟩ rfl ?_
        refine sw_store ?_
        repeat' (first | with_reducible refine sw_in (by omega) ?_ | with_reducible (first | refine go1 ?_ | refine sct ?_ | refine scf ?_ | refine sgr ?_) | fail)
        refine sq_round ⟨1 + 1, by omega⟩ ?_ ?_ ?_
        · show 2 - (1 + 1) < 2 - 1
          omega
        · repeat' (first | exact says_nil | refine says_cons rfl ?_ | refine says_cons (by simp) ?_)
        · simp only [show (0 < 1 + 1) = True by simp, show (1 < 1 + 1) = True by simp, if_true]
          rw [h1]
          repeat' (first | with_reducible exact Ent.refl _ | with_reducible refine Ent.take_eq ?_ ?_ | rfl | with_reducible refine Ent.trans (Ent.drop _ _) ?_)
      · repeat' (first | with_reducible refine sw_in (by omega) ?_ | with_reducible (first | refine go1 ?_ | refine sct ?_ | refine scf ?_ | refine sgr ?_) | (with_reducible refine sc_cond (fun h => ?_) (fun h => ?_)) <;> (try (exfalso; first | contradiction | omega | exact h Iff.rfl)) | fail)
        refine sw_call (mParse_ok b _ _ (f (a + 1)).1 RdB.own0 hby) ?_
        rintro _ _ ⟨rfl, rfl⟩
        have h1 : one f a 1 = if (parseM (f (a + 1)).1).2 ≠ 0 then parseM (f (a + 1)).1 else if (parseM (f (a + 1)).1).1.place a ≠ a + 1 then (Ms.zero, 200) else parseM (f (a + 1)).1 := by unfold one; rw [if_neg (by omega)]
        generalize parseM (f (a + 1)).1 = q at *
        obtain ⟨q1, q2⟩ := q
        simp only at h1
        repeat' (first | with_reducible (first | refine go1 ?_ | refine sct ?_ | refine scf ?_ | refine sgr ?_) | fail)
        refine sw_indexA 1 (8 * 1) ⟨rfl, by omega, by omega⟩ rfl ?_
        refine sw_storePart (mrow (one f a 0).1 q1) (by show _ ≤ 16; omega) rfl ?_
        repeat' (first | with_reducible refine sw_in (by omega) ?_ | with_reducible (first | refine go1 ?_ | refine sct ?_ | refine scf ?_ | refine sgr ?_) | with_reducible refine sw_guard_skip_u ?_ | (with_reducible refine sc_cond (fun h => ?_) (fun h => ?_)) <;> (try (exfalso; first | contradiction | omega | exact h Iff.rfl)) | (with_reducible refine sw_guard_split (fun h => ?_) (fun h => ?_)) <;> (try (exfalso; first | contradiction | omega | exact h Iff.rfl)) | (with_reducible refine sw_pick (fun h => ?_) (fun h => ?_)) <;> (try (exfalso; first | contradiction | omega | exact h Iff.rfl)) | fail)
        · refine sw_indexA 1 (8 * 1) ⟨rfl, by omega, by omega⟩ rfl ?_
          repeat' (first | with_reducible (first | refine go1 ?_ | refine sct ?_ | refine scf ?_ | refine sgr ?_) | fail)
          refine sw_loadPart q1.cs rfl rfl ?_
          have hq2 : q2 = 0 := by omega
          rw [if_neg (by omega)] at h1
          repeat' (first | with_reducible (first | refine go1 ?_ | refine sct ?_ | refine scf ?_ | refine sgr ?_) | fail)
          refine sw_call (mPlace_ok a q1 (by omega)) ?_
          rintro _ _ ⟨rfl, rfl⟩
          repeat' (first | with_reducible refine sw_in (by omega) ?_ | with_reducible (first | refine go1 ?_ | refine sct ?_ | refine scf ?_ | refine sgr ?_) | (with_reducible refine sc_cond (fun h => ?_) (fun h => ?_)) <;> (try (exfalso; first | contradiction | omega | exact h Iff.rfl)) | fail)
          · rw [if_pos h] at h1
            refine sw_build Ms.zero.cs (by kernel_rfl) ?_
            refine sw_indexA 1 (8 * 1) ⟨rfl, by omega, by omega⟩ rfl ?_
            refine sw_storePart (mrow (one f a 0).1 Ms.zero) (by show _ ≤ 16; omega) rfl ?_
            repeat' (first | with_reducible (first | refine go1 ?_ | refine sct ?_ | refine scf ?_ | refine sgr ?_) | fail)
            refine sw_indexA 1 1 ⟨rfl, by omega, by omega⟩ rfl ?_
            refine sw_store ?_
            repeat' (first | with_reducible refine sw_in (by omega) ?_ | with_reducible (first | refine go1 ?_ | refine sct ?_ | refine scf ?_ | refine sgr ?_) | fail)
            refine sq_round ⟨1 + 1, by omega⟩ ?_ ?_ ?_
            · show 2 - (1 + 1) < 2 - 1
              omega
            · repeat' (first | exact says_nil | refine says_cons rfl ?_ | refine says_cons (by simp) ?_)
            · simp only [show (0 < 1 + 1) = True by simp, show (1 < 1 + 1) = True by simp, if_true]
              rw [h1]
              repeat' (first | with_reducible exact Ent.refl _ | with_reducible refine Ent.take_eq ?_ ?_ | rfl | with_reducible refine Ent.trans (Ent.drop _ _) ?_)
          · rw [if_neg h] at h1
            refine sw_indexA 1 1 ⟨rfl, by omega, by omega⟩ rfl ?_
            refine sw_store ?_
            repeat' (first | with_reducible refine sw_in (by omega) ?_ | with_reducible (first | refine go1 ?_ | refine sct ?_ | refine scf ?_ | refine sgr ?_) | fail)
            refine sq_round ⟨1 + 1, by omega⟩ ?_ ?_ ?_
            · show 2 - (1 + 1) < 2 - 1
              omega
            · repeat' (first | exact says_nil | refine says_cons rfl ?_ | refine says_cons (by simp) ?_)
            · simp only [show (0 < 1 + 1) = True by simp, show (1 < 1 + 1) = True by simp, if_true]
              rw [h1]
              repeat' (first | with_reducible exact Ent.refl _ | with_reducible refine Ent.take_eq ?_ ?_ | rfl | with_reducible refine Ent.trans (Ent.drop _ _) ?_)
        · rw [if_pos h] at h1
          refine sw_indexA 1 1 ⟨rfl, by omega, by omega⟩ rfl ?_
          refine sw_store ?_
          repeat' (first | with_reducible refine sw_in (by omega) ?_ | with_reducible (first | refine go1 ?_ | refine sct ?_ | refine scf ?_ | refine sgr ?_) | fail)
          refine sq_round ⟨1 + 1, by omega⟩ ?_ ?_ ?_
          · show 2 - (1 + 1) < 2 - 1
            omega
          · repeat' (first | exact says_nil | refine says_cons rfl ?_ | refine says_cons (by simp) ?_)
          · simp only [show (0 < 1 + 1) = True by simp, show (1 < 1 + 1) = True by simp, if_true]
            rw [h1]
            repeat' (first | with_reducible exact Ent.refl _ | with_reducible refine Ent.take_eq ?_ ?_ | rfl | with_reducible refine Ent.trans (Ent.drop _ _) ?_)
  · have h2 : i = 2 := by omega
    subst h2
    simp only [show (0 < 2) = True by simp, show (1 < 2) = True by simp, if_true]
    repeat' (first | with_reducible refine sw_in (by omega) ?_ | with_reducible (first | refine go1 ?_ | refine sct ?_ | refine scf ?_ | refine sgr ?_) | (with_reducible refine sc_cond (fun h => ?_) (fun h => ?_)) <;> (try (exfalso; first | contradiction | omega | exact h Iff.rfl)) | fail)
    refine sc_lin ([(b6, pts b6 (.cells (mrow (one f a 0).1 (one f a 1).1).toArray 49 (0, 0))), (b7, pts b7 (.cells (erow (one f a 0).2 (one f a 1).2).toArray 50 (0, 0)))]) (llp 0 (llp 1 (lle 2 (lle 3 ll0)))) (by kernel_rfl) rfl (by kernel_rfl) ?_
    all_goals (iterate 2 refine go1l ?_)
    all_goals refine sl_eff ?_
    all_goals (repeat' (first | with_reducible (first | refine go1 ?_ | refine sct ?_ | refine scf ?_ | refine sgr ?_) | with_reducible refine sw_store_agg ?_ | with_reducible refine sl_back ?_ | fail))
    all_goals refine sl_eff ?_
    all_goals (repeat' (first | with_reducible (first | refine go1 ?_ | refine sct ?_ | refine scf ?_ | refine sgr ?_) | with_reducible refine sw_store_agg ?_ | with_reducible refine sl_back ?_ | fail))
    all_goals refine sl_done ?_
    repeat' (first | with_reducible (first | refine go1 ?_ | refine sct ?_ | refine scf ?_ | refine sgr ?_) | fail)
    refine sq_resAA Try.results23 (by first | exact .inl rfl | exact .inr rfl) rfl rfl ?_
    refine ⟨_, ⟨rfl, rfl⟩, ?_⟩
    repeat' (first | with_reducible exact Ent.refl _ | with_reducible refine Ent.take_eq ?_ ?_ | rfl | with_reducible refine Ent.trans (Ent.drop _ _) ?_)
end Go.Gsl

namespace Go.Gsl
set_option linter.unusedVariables false
open Go.Proofs

/-- the master that counts, of what both sectors say -/
def readM (x y : Ms × Int) : Ms × Int :=
  if x.2 ≠ 0 ∧ x.2 ≠ 200 then (Ms.zero, x.2) else if y.2 ≠ 0 ∧ y.2 ≠ 200 then (Ms.zero, y.2)
  else if y.2 = 0 ∧ (x.2 ≠ 0 ∨ x.1.seq < y.1.seq) then (y.1, 0) else if x.2 = 0 then (x.1, 0) else (Ms.zero, 200)

def bestAt (x y : Ms × Int) (i : Nat) : Int := if i = 0 then -1 else if i = 1 then (if x.2 = 0 then 0 else -1) else (if y.2 = 0 ∧ (x.2 ≠ 0 ∨ x.1.seq < y.1.seq) then 1 else if x.2 = 0 then 0 else -1)

theorem bestAt2 (x y : Ms × Int) : bestAt x y 2 = if y.2 = 0 ∧ (x.2 ≠ 0 ∨ x.1.seq < y.1.seq) then 1 else if x.2 = 0 then 0 else -1 := by unfold bestAt; rw [if_neg (by omega), if_neg (by omega)]

set_option maxHeartbeats 1000000 in
theorem mRead_ok (v : Value) (k : Nat) (r : HProp) (f : Int → List Int × Int) (hf : RdSpec v k r f) (a : Int) (ha : -4611686018427387904 ≤ a ∧ a ≤ 4611686018427387000) :
    Spec Try.prog 21 [v, .int .i64 a] [k] [r] fun F w Rs' => w = .tuple #[.agg (readM (one f a 0) (one f a 1)).1.cs.toArray, .int .i64 (readM (one f a 0) (one f a 1)).2] ∧ Rs' = (k, r) :: F := by
  refine spec_of Try.func21 rfl Try.ntmps21 rfl ?_
  intro w0 F
  repeat' (first | with_reducible (first | refine go1 ?_ | refine sct ?_ | refine scf ?_ | refine sgr ?_) | fail)
  refine sw_alloc fun b4 => ?_
  repeat' (first | with_reducible (first | refine go1 ?_ | refine sct ?_ | refine scf ?_ | refine sgr ?_) | fail)
  refine sw_call (mBoth_ok v k r f hf a ha) ?_
  rintro _ _ ⟨rfl, rfl⟩
  generalize one f a 0 = x
  generalize one f a 1 = y
  repeat' (first | with_reducible (first | refine go1 ?_ | refine sct ?_ | refine scf ?_ | refine sgr ?_) | fail)
  refine sw_alloc fun b6 => ?_
  repeat' (first | with_reducible (first | refine go1 ?_ | refine sct ?_ | refine scf ?_ | refine sgr ?_) | fail)
  refine sw_alloc fun b7 => ?_
  repeat' (first | with_reducible (first | refine go1 ?_ | refine sct ?_ | refine scf ?_ | refine sgr ?_) | fail)
  refine sw_store_agg ?_
  refine sw_store_agg ?_
  repeat' (first | with_reducible (first | refine go1 ?_ | refine sct ?_ | refine scf ?_ | refine sgr ?_) | fail)
  refine sc_loop (α := { i : Nat // i ≤ 2 ∧ (0 < i → x.2 = 0 ∨ x.2 = 200) ∧ (1 < i → y.2 = 0 ∨ y.2 = 200) }) (fun i => [(4, .pointer (some ⟨b4, 0, none⟩)), (6, .pointer (some ⟨b6, 0, none⟩)), (7, .pointer (some ⟨b7, 0, none⟩)), (8, .int .i64 (bestAt x y i.1)), (16, .int .i64 (i.1 : Int))])
    (fun _ => (b7, pts b7 (.cells (erow x.2 y.2).toArray 50 (0, 0))) :: (b6, pts b6 (.cells (mrow x.1 y.1).toArray 49 (0, 0))) :: (b4, pts b4 (.cells Ms.zero.cs.toArray 34 (0, 0))) :: (k, r) :: F) (fun i => 2 - i.1) ⟨0, Nat.zero_le _, fun h => by omega, fun h => by omega⟩ ?_ ?_ ?_
  · repeat' (first | exact says_nil | refine says_cons rfl ?_ | refine says_cons (by simp) ?_)
  · repeat' (first | with_reducible exact Ent.refl _ | with_reducible refine Ent.take_eq ?_ ?_ | rfl | with_reducible refine Ent.trans (Ent.drop _ _) ?_)
  rintro ⟨i, hi, hx, hy⟩ e
  (try simp only at hi hx hy)
  simp only [List.cons_append, List.nil_append]
  rcases Nat.lt_or_ge i 2 with hlt | hge
  · rcases (show i = 0 ∨ i = 1 by omega) with rfl | rfl
    · rw [show ((0 : Nat) : Int) = 0 from rfl, show bestAt x y 0 = -1 from rfl]
      repeat' (first | with_reducible refine sw_in (by omega) ?_ | with_reducible (first | refine go1 ?_ | refine sct ?_ | refine scf ?_ | refine sgr ?_) | (with_reducible refine sc_cond (fun h => ?_) (fun h => ?_)) <;> (try (exfalso; first | contradiction | omega | exact h Iff.rfl)) | fail)
      refine sw_indexA 0 0 ⟨rfl, by omega, by omega⟩ rfl ?_
      repeat' (first | with_reducible (first | refine go1 ?_ | refine sct ?_ | refine scf ?_ | refine sgr ?_) | with_reducible refine sw_guard_skip_u ?_ | with_reducible refine sw_indexA 0 0 ⟨rfl, by omega, by omega⟩ rfl ?_ | (with_reducible refine sw_guard_split (fun h => ?_) (fun h => ?_)) <;> (try (exfalso; first | contradiction | omega | exact h Iff.rfl)) | (with_reducible refine sc_cond (fun h => ?_) (fun h => ?_)) <;> (try (exfalso; first | contradiction | omega | exact h Iff.rfl)) | (with_reducible refine sw_pick (fun h => ?_) (fun h => ?_)) <;> (try (exfalso; first | contradiction | omega | exact h Iff.rfl)) | fail)
      · refine sc_lin ([(b7, pts b7 (.cells (erow x.2 y.2).toArray 50 (0, 0)))]) (llp 0 (llp 1 (llp 2 (llp 3 (lle 4 (llp 5 ll0)))))) (by kernel_rfl) rfl (by kernel_rfl) ?_
        all_goals refine sl_take (h := runop_buildR Ms.zero.cs (by kernel_rfl)) ?_
        all_goals refine go1l ?_
        all_goals refine sl_take (h := runop_indexA 0 0 ⟨rfl, by omega, by omega⟩ rfl) ?_
        all_goals refine go1l ?_
        all_goals refine sl_eff ?_
        all_goals (repeat' (first | with_reducible (first | refine go1 ?_ | refine sct ?_ | refine scf ?_ | refine sgr ?_) | with_reducible refine sw_store_agg ?_ | with_reducible refine sl_back ?_ | fail))
        all_goals refine go1l ?_
        all_goals refine sl_done ?_
        repeat' (first | with_reducible (first | refine go1 ?_ | refine sct ?_ | refine scf ?_ | refine sgr ?_) | fail)
        refine sq_resAT Try.results21 (by first | exact .inl rfl | exact .inr rfl) rfl ?_
        refine ⟨_, ⟨?_, rfl⟩, ?_⟩
        · have h9 : readM x y = (Ms.zero, x.2) := by unfold readM; rw [if_pos (by omega)]
          rw [h9]
        · repeat' (first | with_reducible exact Ent.refl _ | with_reducible refine Ent.take_eq ?_ ?_ | rfl | with_reducible refine Ent.trans (Ent.drop _ _) ?_)
      · refine sc_lin ([(b7, pts b7 (.cells (erow x.2 y.2).toArray 50 (0, 0))), (b6, pts b6 (.cells (mrow x.1 y.1).toArray 49 (0, 0)))]) (llp 0 (llp 1 (llp 2 (llp 3 (llp 4 (llp 5 (llp 6 (llp 7 (llp 8 (llp 9 (llp 10 (llp 11 (llp 12 (llp 13 (llp 14 (llp 15 (llp 16 (llp 17 (llp 18 ll0))))))))))))))))))) (by kernel_rfl) rfl (by kernel_rfl) ?_
        all_goals refine go1l ?_
        all_goals refine sl_take (h := runop_indexA 0 0 ⟨rfl, by omega, by omega⟩ rfl) ?_
        all_goals (iterate 3 refine go1l ?_)
        all_goals (first | refine go1l ?_ | ((refine sl_split 37 (fun h => ?_) (fun h => ?_)) <;> (try (exfalso; first | contradiction | omega | exact h Iff.rfl)) <;> refine go1l ?_))
        all_goals (first | refine go1l ?_ | ((refine sl_split 37 (fun h => ?_) (fun h => ?_)) <;> (try (exfalso; first | contradiction | omega | exact h Iff.rfl)) <;> refine go1l ?_))
        all_goals (first | refine go1l ?_ | ((refine sl_split 37 (fun h => ?_) (fun h => ?_)) <;> (try (exfalso; first | contradiction | omega | exact h Iff.rfl)) <;> refine go1l ?_))
        all_goals (first | refine go1l ?_ | ((refine sl_split 40 (fun h => ?_) (fun h => ?_)) <;> (try (exfalso; first | contradiction | omega | exact h Iff.rfl)) <;> refine go1l ?_))
        all_goals (first | (first | refine sl_skip ?_ | refine sl_skip_u ?_ | refine sl_take_g (h := runop_indexA 0 (8 * 0) ⟨rfl, by omega, by omega⟩ rfl) ?_) | ((refine sl_split 40 (fun h => ?_) (fun h => ?_)) <;> (try (exfalso; first | contradiction | omega | exact h Iff.rfl)) <;> (first | refine sl_skip ?_ | refine sl_skip_u ?_ | refine sl_take_g (h := runop_indexA 0 (8 * 0) ⟨rfl, by omega, by omega⟩ rfl) ?_)))
        all_goals (first | refine go1l ?_ | ((refine sl_split 40 (fun h => ?_) (fun h => ?_)) <;> (try (exfalso; first | contradiction | omega | exact h Iff.rfl)) <;> refine go1l ?_))
        all_goals (first | refine go1l ?_ | ((refine sl_split 40 (fun h => ?_) (fun h => ?_)) <;> (try (exfalso; first | contradiction | omega | exact h Iff.rfl)) <;> refine go1l ?_))
        all_goals (first | refine go1l ?_ | ((refine sl_split 40 (fun h => ?_) (fun h => ?_)) <;> (try (exfalso; first | contradiction | omega | exact h Iff.rfl)) <;> refine go1l ?_))
        all_goals (first | (first | refine sl_skip ?_ | refine sl_skip_u ?_ | refine sl_take_g (h := runop_indexA 0 0 ⟨by omega, by omega, by omega⟩ rfl) ?_) | ((refine sl_split 40 (fun h => ?_) (fun h => ?_)) <;> (try (exfalso; first | contradiction | omega | exact h Iff.rfl)) <;> (first | refine sl_skip ?_ | refine sl_skip_u ?_ | refine sl_take_g (h := runop_indexA 0 0 ⟨by omega, by omega, by omega⟩ rfl) ?_)))
        all_goals (first | refine go1l ?_ | ((refine sl_split 40 (fun h => ?_) (fun h => ?_)) <;> (try (exfalso; first | contradiction | omega | exact h Iff.rfl)) <;> refine go1l ?_))
        all_goals (first | refine go1l ?_ | ((refine sl_split 40 (fun h => ?_) (fun h => ?_)) <;> (try (exfalso; first | contradiction | omega | exact h Iff.rfl)) <;> refine go1l ?_))
        all_goals (first | refine go1l ?_ | ((refine sl_split 40 (fun h => ?_) (fun h => ?_)) <;> (try (exfalso; first | contradiction | omega | exact h Iff.rfl)) <;> refine go1l ?_))
        all_goals (first | refine go1l ?_ | ((refine sl_split 37 (fun h => ?_) (fun h => ?_)) <;> (try (exfalso; first | contradiction | omega | exact h Iff.rfl)) <;> refine go1l ?_))
        all_goals (first | refine go1l ?_ | ((refine sl_split 37 (fun h => ?_) (fun h => ?_)) <;> (try (exfalso; first | contradiction | omega | exact h Iff.rfl)) <;> refine go1l ?_))
        all_goals refine sl_done ?_
        all_goals (repeat' (first | with_reducible refine sw_in (by omega) ?_ | with_reducible (first | refine go1 ?_ | refine sct ?_ | refine scf ?_ | refine sgr ?_) | (with_reducible refine sc_cond (fun h => ?_) (fun h => ?_)) <;> (try (exfalso; first | contradiction | omega | exact h Iff.rfl)) | fail))
        all_goals
          refine sq_round ⟨0 + 1, by omega, fun _ => by omega, fun _ => by omega⟩ ?_ ?_ ?_
          · show 2 - (0 + 1) < 2 - 0
            omega
          · refine says_cons rfl (says_cons rfl (says_cons rfl (says_cons ?_ (says_cons rfl says_nil))))
            unfold bestAt; simp; omega
          · exact Ent.refl _
      · refine sc_lin ([(b7, pts b7 (.cells (erow x.2 y.2).toArray 50 (0, 0))), (b6, pts b6 (.cells (mrow x.1 y.1).toArray 49 (0, 0)))]) (llp 0 (llp 1 (llp 2 (llp 3 (llp 4 (llp 5 (llp 6 (llp 7 (llp 8 (llp 9 (llp 10 (llp 11 (llp 12 (llp 13 (llp 14 (llp 15 (llp 16 (llp 17 (llp 18 ll0))))))))))))))))))) (by kernel_rfl) rfl (by kernel_rfl) ?_
        all_goals refine go1l ?_
        all_goals refine sl_take (h := runop_indexA 0 0 ⟨rfl, by omega, by omega⟩ rfl) ?_
        all_goals (iterate 3 refine go1l ?_)
        all_goals (first | refine go1l ?_ | ((refine sl_split 37 (fun h => ?_) (fun h => ?_)) <;> (try (exfalso; first | contradiction | omega | exact h Iff.rfl)) <;> refine go1l ?_))
        all_goals (first | refine go1l ?_ | ((refine sl_split 37 (fun h => ?_) (fun h => ?_)) <;> (try (exfalso; first | contradiction | omega | exact h Iff.rfl)) <;> refine go1l ?_))
        all_goals (first | refine go1l ?_ | ((refine sl_split 37 (fun h => ?_) (fun h => ?_)) <;> (try (exfalso; first | contradiction | omega | exact h Iff.rfl)) <;> refine go1l ?_))
        all_goals (first | refine go1l ?_ | ((refine sl_split 40 (fun h => ?_) (fun h => ?_)) <;> (try (exfalso; first | contradiction | omega | exact h Iff.rfl)) <;> refine go1l ?_))
        all_goals (first | (first | refine sl_skip ?_ | refine sl_skip_u ?_ | refine sl_take_g (h := runop_indexA 0 (8 * 0) ⟨rfl, by omega, by omega⟩ rfl) ?_) | ((refine sl_split 40 (fun h => ?_) (fun h => ?_)) <;> (try (exfalso; first | contradiction | omega | exact h Iff.rfl)) <;> (first | refine sl_skip ?_ | refine sl_skip_u ?_ | refine sl_take_g (h := runop_indexA 0 (8 * 0) ⟨rfl, by omega, by omega⟩ rfl) ?_)))
        all_goals (first | refine go1l ?_ | ((refine sl_split 40 (fun h => ?_) (fun h => ?_)) <;> (try (exfalso; first | contradiction | omega | exact h Iff.rfl)) <;> refine go1l ?_))
        all_goals (first | refine go1l ?_ | ((refine sl_split 40 (fun h => ?_) (fun h => ?_)) <;> (try (exfalso; first | contradiction | omega | exact h Iff.rfl)) <;> refine go1l ?_))
        all_goals (first | refine go1l ?_ | ((refine sl_split 40 (fun h => ?_) (fun h => ?_)) <;> (try (exfalso; first | contradiction | omega | exact h Iff.rfl)) <;> refine go1l ?_))
        all_goals (first | (first | refine sl_skip ?_ | refine sl_skip_u ?_ | refine sl_take_g (h := runop_indexA 0 0 ⟨by omega, by omega, by omega⟩ rfl) ?_) | ((refine sl_split 40 (fun h => ?_) (fun h => ?_)) <;> (try (exfalso; first | contradiction | omega | exact h Iff.rfl)) <;> (first | refine sl_skip ?_ | refine sl_skip_u ?_ | refine sl_take_g (h := runop_indexA 0 0 ⟨by omega, by omega, by omega⟩ rfl) ?_)))
        all_goals (first | refine go1l ?_ | ((refine sl_split 40 (fun h => ?_) (fun h => ?_)) <;> (try (exfalso; first | contradiction | omega | exact h Iff.rfl)) <;> refine go1l ?_))
        all_goals (first | refine go1l ?_ | ((refine sl_split 40 (fun h => ?_) (fun h => ?_)) <;> (try (exfalso; first | contradiction | omega | exact h Iff.rfl)) <;> refine go1l ?_))
        all_goals (first | refine go1l ?_ | ((refine sl_split 40 (fun h => ?_) (fun h => ?_)) <;> (try (exfalso; first | contradiction | omega | exact h Iff.rfl)) <;> refine go1l ?_))
        all_goals (first | refine go1l ?_ | ((refine sl_split 37 (fun h => ?_) (fun h => ?_)) <;> (try (exfalso; first | contradiction | omega | exact h Iff.rfl)) <;> refine go1l ?_))
        all_goals (first | refine go1l ?_ | ((refine sl_split 37 (fun h => ?_) (fun h => ?_)) <;> (try (exfalso; first | contradiction | omega | exact h Iff.rfl)) <;> refine go1l ?_))
        all_goals refine sl_done ?_
        all_goals (repeat' (first | with_reducible refine sw_in (by omega) ?_ | with_reducible (first | refine go1 ?_ | refine sct ?_ | refine scf ?_ | refine sgr ?_) | (with_reducible refine sc_cond (fun h => ?_) (fun h => ?_)) <;> (try (exfalso; first | contradiction | omega | exact h Iff.rfl)) | fail))
        all_goals
          refine sq_round ⟨0 + 1, by omega, fun _ => by omega, fun _ => by omega⟩ ?_ ?_ ?_
          · show 2 - (0 + 1) < 2 - 0
            omega
          · refine says_cons rfl (says_cons rfl (says_cons rfl (says_cons ?_ (says_cons rfl says_nil))))
            unfold bestAt; simp; omega
          · exact Ent.refl _
    · have hx1 := hx (by omega)
      rw [show ((1 : Nat) : Int) = 1 from rfl]
      rcases Classical.em (x.2 = 0) with hx0 | hx0
      · have hB : bestAt x y 1 = 0 := by simp [bestAt, hx0]
        generalize bestAt x y 1 = B at *
        repeat' (first | with_reducible refine sw_in (by omega) ?_ | with_reducible (first | refine go1 ?_ | refine sct ?_ | refine scf ?_ | refine sgr ?_) | (with_reducible refine sc_cond (fun h => ?_) (fun h => ?_)) <;> (try (exfalso; first | contradiction | omega | exact h Iff.rfl)) | fail)
        refine sw_indexA 1 1 ⟨rfl, by omega, by omega⟩ rfl ?_
        repeat' (first | with_reducible (first | refine go1 ?_ | refine sct ?_ | refine scf ?_ | refine sgr ?_) | with_reducible refine sw_guard_skip_u ?_ | with_reducible refine sw_indexA 1 1 ⟨rfl, by omega, by omega⟩ rfl ?_ | (with_reducible refine sw_guard_split (fun h => ?_) (fun h => ?_)) <;> (try (exfalso; first | contradiction | omega | exact h Iff.rfl)) | (with_reducible refine sc_cond (fun h => ?_) (fun h => ?_)) <;> (try (exfalso; first | contradiction | omega | exact h Iff.rfl)) | (with_reducible refine sw_pick (fun h => ?_) (fun h => ?_)) <;> (try (exfalso; first | contradiction | omega | exact h Iff.rfl)) | fail)
        · refine sc_lin ([(b7, pts b7 (.cells (erow x.2 y.2).toArray 50 (0, 0)))]) (llp 0 (llp 1 (llp 2 (llp 3 (lle 4 (llp 5 ll0)))))) (by kernel_rfl) rfl (by kernel_rfl) ?_
          all_goals refine sl_take (h := runop_buildR Ms.zero.cs (by kernel_rfl)) ?_
          all_goals refine go1l ?_
          all_goals refine sl_take (h := runop_indexA 1 1 ⟨rfl, by omega, by omega⟩ rfl) ?_
          all_goals refine go1l ?_
          all_goals refine sl_eff ?_
          all_goals (repeat' (first | with_reducible (first | refine go1 ?_ | refine sct ?_ | refine scf ?_ | refine sgr ?_) | with_reducible refine sw_store_agg ?_ | with_reducible refine sl_back ?_ | fail))
          all_goals refine go1l ?_
          all_goals refine sl_done ?_
          repeat' (first | with_reducible (first | refine go1 ?_ | refine sct ?_ | refine scf ?_ | refine sgr ?_) | fail)
          refine sq_resAT Try.results21 (by first | exact .inl rfl | exact .inr rfl) rfl ?_
          refine ⟨_, ⟨?_, rfl⟩, ?_⟩
          · have h9 : readM x y = (Ms.zero, y.2) := by unfold readM; rw [if_neg (by omega), if_pos (by omega)]
            rw [h9]
          · repeat' (first | with_reducible exact Ent.refl _ | with_reducible refine Ent.take_eq ?_ ?_ | rfl | with_reducible refine Ent.trans (Ent.drop _ _) ?_)
        · refine sc_lin ([(b7, pts b7 (.cells (erow x.2 y.2).toArray 50 (0, 0))), (b6, pts b6 (.cells (mrow x.1 y.1).toArray 49 (0, 0)))]) (llp 0 (llp 1 (llp 2 (llp 3 (llp 4 (llp 5 (llp 6 (llp 7 (llp 8 (llp 9 (llp 10 (llp 11 (llp 12 (llp 13 (llp 14 (llp 15 (llp 16 (llp 17 (llp 18 ll0))))))))))))))))))) (by kernel_rfl) rfl (by kernel_rfl) ?_
          all_goals refine go1l ?_
          all_goals refine sl_take (h := runop_indexA 1 1 ⟨rfl, by omega, by omega⟩ rfl) ?_
          all_goals (iterate 3 refine go1l ?_)
          all_goals (first | refine go1l ?_ | ((refine sl_split 37 (fun h => ?_) (fun h => ?_)) <;> (try (exfalso; first | contradiction | omega | exact h Iff.rfl)) <;> refine go1l ?_))
          all_goals (first | refine go1l ?_ | ((refine sl_split 37 (fun h => ?_) (fun h => ?_)) <;> (try (exfalso; first | contradiction | omega | exact h Iff.rfl)) <;> refine go1l ?_))
          all_goals (first | refine go1l ?_ | ((refine sl_split 37 (fun h => ?_) (fun h => ?_)) <;> (try (exfalso; first | contradiction | omega | exact h Iff.rfl)) <;> refine go1l ?_))
          all_goals (first | refine go1l ?_ | ((refine sl_split 40 (fun h => ?_) (fun h => ?_)) <;> (try (exfalso; first | contradiction | omega | exact h Iff.rfl)) <;> refine go1l ?_))
          all_goals (first | (first | refine sl_skip ?_ | refine sl_skip_u ?_ | refine sl_take_g (h := runop_indexA 1 (8 * 1) ⟨rfl, by omega, by omega⟩ rfl) ?_) | ((refine sl_split 40 (fun h => ?_) (fun h => ?_)) <;> (try (exfalso; first | contradiction | omega | exact h Iff.rfl)) <;> (first | refine sl_skip ?_ | refine sl_skip_u ?_ | refine sl_take_g (h := runop_indexA 1 (8 * 1) ⟨rfl, by omega, by omega⟩ rfl) ?_)))
          all_goals (first | refine go1l ?_ | ((refine sl_split 40 (fun h => ?_) (fun h => ?_)) <;> (try (exfalso; first | contradiction | omega | exact h Iff.rfl)) <;> refine go1l ?_))
          all_goals (first | refine go1l ?_ | ((refine sl_split 40 (fun h => ?_) (fun h => ?_)) <;> (try (exfalso; first | contradiction | omega | exact h Iff.rfl)) <;> refine go1l ?_))
          all_goals (first | refine go1l ?_ | ((refine sl_split 40 (fun h => ?_) (fun h => ?_)) <;> (try (exfalso; first | contradiction | omega | exact h Iff.rfl)) <;> refine go1l ?_))
          all_goals (first | (first | refine sl_skip ?_ | refine sl_skip_u ?_ | refine sl_take_g (h := runop_indexA 0 0 ⟨by omega, by omega, by omega⟩ rfl) ?_) | ((refine sl_split 40 (fun h => ?_) (fun h => ?_)) <;> (try (exfalso; first | contradiction | omega | exact h Iff.rfl)) <;> (first | refine sl_skip ?_ | refine sl_skip_u ?_ | refine sl_take_g (h := runop_indexA 0 0 ⟨by omega, by omega, by omega⟩ rfl) ?_)))
          all_goals (first | refine go1l ?_ | ((refine sl_split 40 (fun h => ?_) (fun h => ?_)) <;> (try (exfalso; first | contradiction | omega | exact h Iff.rfl)) <;> refine go1l ?_))
          all_goals (first | refine go1l ?_ | ((refine sl_split 40 (fun h => ?_) (fun h => ?_)) <;> (try (exfalso; first | contradiction | omega | exact h Iff.rfl)) <;> refine go1l ?_))
          all_goals (first | refine go1l ?_ | ((refine sl_split 40 (fun h => ?_) (fun h => ?_)) <;> (try (exfalso; first | contradiction | omega | exact h Iff.rfl)) <;> refine go1l ?_))
          all_goals (first | refine go1l ?_ | ((refine sl_split 37 (fun h => ?_) (fun h => ?_)) <;> (try (exfalso; first | contradiction | omega | exact h Iff.rfl)) <;> refine go1l ?_))
          all_goals (first | refine go1l ?_ | ((refine sl_split 37 (fun h => ?_) (fun h => ?_)) <;> (try (exfalso; first | contradiction | omega | exact h Iff.rfl)) <;> refine go1l ?_))
          all_goals refine sl_done ?_
          all_goals (repeat' (first | with_reducible refine sw_in (by omega) ?_ | with_reducible (first | refine go1 ?_ | refine sct ?_ | refine scf ?_ | refine sgr ?_) | (with_reducible refine sc_cond (fun h => ?_) (fun h => ?_)) <;> (try (exfalso; first | contradiction | omega | exact h Iff.rfl)) | fail))
          all_goals
            refine sq_round ⟨1 + 1, by omega, fun _ => by omega, fun _ => by omega⟩ ?_ ?_ ?_
            · show 2 - (1 + 1) < 2 - 1
              omega
            · refine says_cons rfl (says_cons rfl (says_cons rfl (says_cons ?_ (says_cons rfl says_nil))))
              rw [show bestAt x y (1 + 1) = _ from bestAt2 x y]; subst hB; (first | rw [if_pos (by omega)] | rw [if_neg (by omega), if_pos (by omega)] | rw [if_neg (by omega), if_neg (by omega)])
            · exact Ent.refl _
        · refine sc_lin ([(b7, pts b7 (.cells (erow x.2 y.2).toArray 50 (0, 0))), (b6, pts b6 (.cells (mrow x.1 y.1).toArray 49 (0, 0)))]) (llp 0 (llp 1 (llp 2 (llp 3 (llp 4 (llp 5 (llp 6 (llp 7 (llp 8 (llp 9 (llp 10 (llp 11 (llp 12 (llp 13 (llp 14 (llp 15 (llp 16 (llp 17 (llp 18 ll0))))))))))))))))))) (by kernel_rfl) rfl (by kernel_rfl) ?_
          all_goals refine go1l ?_
          all_goals refine sl_take (h := runop_indexA 1 1 ⟨rfl, by omega, by omega⟩ rfl) ?_
          all_goals (iterate 3 refine go1l ?_)
          all_goals (first | refine go1l ?_ | ((refine sl_split 37 (fun h => ?_) (fun h => ?_)) <;> (try (exfalso; first | contradiction | omega | exact h Iff.rfl)) <;> refine go1l ?_))
          all_goals (first | refine go1l ?_ | ((refine sl_split 37 (fun h => ?_) (fun h => ?_)) <;> (try (exfalso; first | contradiction | omega | exact h Iff.rfl)) <;> refine go1l ?_))
          all_goals (first | refine go1l ?_ | ((refine sl_split 37 (fun h => ?_) (fun h => ?_)) <;> (try (exfalso; first | contradiction | omega | exact h Iff.rfl)) <;> refine go1l ?_))
          all_goals (first | refine go1l ?_ | ((refine sl_split 40 (fun h => ?_) (fun h => ?_)) <;> (try (exfalso; first | contradiction | omega | exact h Iff.rfl)) <;> refine go1l ?_))
          all_goals (first | (first | refine sl_skip ?_ | refine sl_skip_u ?_ | refine sl_take_g (h := runop_indexA 1 (8 * 1) ⟨rfl, by omega, by omega⟩ rfl) ?_) | ((refine sl_split 40 (fun h => ?_) (fun h => ?_)) <;> (try (exfalso; first | contradiction | omega | exact h Iff.rfl)) <;> (first | refine sl_skip ?_ | refine sl_skip_u ?_ | refine sl_take_g (h := runop_indexA 1 (8 * 1) ⟨rfl, by omega, by omega⟩ rfl) ?_)))
          all_goals (first | refine go1l ?_ | ((refine sl_split 40 (fun h => ?_) (fun h => ?_)) <;> (try (exfalso; first | contradiction | omega | exact h Iff.rfl)) <;> refine go1l ?_))
          all_goals (first | refine go1l ?_ | ((refine sl_split 40 (fun h => ?_) (fun h => ?_)) <;> (try (exfalso; first | contradiction | omega | exact h Iff.rfl)) <;> refine go1l ?_))
          all_goals (first | refine go1l ?_ | ((refine sl_split 40 (fun h => ?_) (fun h => ?_)) <;> (try (exfalso; first | contradiction | omega | exact h Iff.rfl)) <;> refine go1l ?_))
          all_goals (first | (first | refine sl_skip ?_ | refine sl_skip_u ?_ | refine sl_take_g (h := runop_indexA 0 0 ⟨by omega, by omega, by omega⟩ rfl) ?_) | ((refine sl_split 40 (fun h => ?_) (fun h => ?_)) <;> (try (exfalso; first | contradiction | omega | exact h Iff.rfl)) <;> (first | refine sl_skip ?_ | refine sl_skip_u ?_ | refine sl_take_g (h := runop_indexA 0 0 ⟨by omega, by omega, by omega⟩ rfl) ?_)))
          all_goals (first | refine go1l ?_ | ((refine sl_split 40 (fun h => ?_) (fun h => ?_)) <;> (try (exfalso; first | contradiction | omega | exact h Iff.rfl)) <;> refine go1l ?_))
          all_goals (first | refine go1l ?_ | ((refine sl_split 40 (fun h => ?_) (fun h => ?_)) <;> (try (exfalso; first | contradiction | omega | exact h Iff.rfl)) <;> refine go1l ?_))
          all_goals (first | refine go1l ?_ | ((refine sl_split 40 (fun h => ?_) (fun h => ?_)) <;> (try (exfalso; first | contradiction | omega | exact h Iff.rfl)) <;> refine go1l ?_))
          all_goals (first | refine go1l ?_ | ((refine sl_split 37 (fun h => ?_) (fun h => ?_)) <;> (try (exfalso; first | contradiction | omega | exact h Iff.rfl)) <;> refine go1l ?_))
          all_goals (first | refine go1l ?_ | ((refine sl_split 37 (fun h => ?_) (fun h => ?_)) <;> (try (exfalso; first | contradiction | omega | exact h Iff.rfl)) <;> refine go1l ?_))
          all_goals refine sl_done ?_
          all_goals (repeat' (first | with_reducible refine sw_in (by omega) ?_ | with_reducible (first | refine go1 ?_ | refine sct ?_ | refine scf ?_ | refine sgr ?_) | (with_reducible refine sc_cond (fun h => ?_) (fun h => ?_)) <;> (try (exfalso; first | contradiction | omega | exact h Iff.rfl)) | fail))
          all_goals
            refine sq_round ⟨1 + 1, by omega, fun _ => by omega, fun _ => by omega⟩ ?_ ?_ ?_
            · show 2 - (1 + 1) < 2 - 1
              omega
            · refine says_cons rfl (says_cons rfl (says_cons rfl (says_cons ?_ (says_cons rfl says_nil))))
              rw [show bestAt x y (1 + 1) = _ from bestAt2 x y]; subst hB; (first | rw [if_pos (by omega)] | rw [if_neg (by omega), if_pos (by omega)] | rw [if_neg (by omega), if_neg (by omega)])
            · exact Ent.refl _
      · have hB : bestAt x y 1 = -1 := by simp [bestAt, hx0]
        generalize bestAt x y 1 = B at *
        repeat' (first | with_reducible refine sw_in (by omega) ?_ | with_reducible (first | refine go1 ?_ | refine sct ?_ | refine scf ?_ | refine sgr ?_) | (with_reducible refine sc_cond (fun h => ?_) (fun h => ?_)) <;> (try (exfalso; first | contradiction | omega | exact h Iff.rfl)) | fail)
        refine sw_indexA 1 1 ⟨rfl, by omega, by omega⟩ rfl ?_
        repeat' (first | with_reducible (first | refine go1 ?_ | refine sct ?_ | refine scf ?_ | refine sgr ?_) | with_reducible refine sw_guard_skip_u ?_ | with_reducible refine sw_indexA 1 1 ⟨rfl, by omega, by omega⟩ rfl ?_ | (with_reducible refine sw_guard_split (fun h => ?_) (fun h => ?_)) <;> (try (exfalso; first | contradiction | omega | exact h Iff.rfl)) | (with_reducible refine sc_cond (fun h => ?_) (fun h => ?_)) <;> (try (exfalso; first | contradiction | omega | exact h Iff.rfl)) | (with_reducible refine sw_pick (fun h => ?_) (fun h => ?_)) <;> (try (exfalso; first | contradiction | omega | exact h Iff.rfl)) | fail)
        · refine sc_lin ([(b7, pts b7 (.cells (erow x.2 y.2).toArray 50 (0, 0)))]) (llp 0 (llp 1 (llp 2 (llp 3 (lle 4 (llp 5 ll0)))))) (by kernel_rfl) rfl (by kernel_rfl) ?_
          all_goals refine sl_take (h := runop_buildR Ms.zero.cs (by kernel_rfl)) ?_
          all_goals refine go1l ?_
          all_goals refine sl_take (h := runop_indexA 1 1 ⟨rfl, by omega, by omega⟩ rfl) ?_
          all_goals refine go1l ?_
          all_goals refine sl_eff ?_
          all_goals (repeat' (first | with_reducible (first | refine go1 ?_ | refine sct ?_ | refine scf ?_ | refine sgr ?_) | with_reducible refine sw_store_agg ?_ | with_reducible refine sl_back ?_ | fail))
          all_goals refine go1l ?_
          all_goals refine sl_done ?_
          repeat' (first | with_reducible (first | refine go1 ?_ | refine sct ?_ | refine scf ?_ | refine sgr ?_) | fail)
          refine sq_resAT Try.results21 (by first | exact .inl rfl | exact .inr rfl) rfl ?_
          refine ⟨_, ⟨?_, rfl⟩, ?_⟩
          · have h9 : readM x y = (Ms.zero, y.2) := by unfold readM; rw [if_neg (by omega), if_pos (by omega)]
            rw [h9]
          · repeat' (first | with_reducible exact Ent.refl _ | with_reducible refine Ent.take_eq ?_ ?_ | rfl | with_reducible refine Ent.trans (Ent.drop _ _) ?_)
        · refine sc_lin ([(b7, pts b7 (.cells (erow x.2 y.2).toArray 50 (0, 0))), (b6, pts b6 (.cells (mrow x.1 y.1).toArray 49 (0, 0)))]) (llp 0 (llp 1 (llp 2 (llp 3 (llp 4 (llp 5 (llp 6 (llp 7 (llp 8 (llp 9 (llp 10 (llp 11 (llp 12 (llp 13 (llp 14 (llp 15 (llp 16 (llp 17 (llp 18 ll0))))))))))))))))))) (by kernel_rfl) rfl (by kernel_rfl) ?_
          all_goals refine go1l ?_
          all_goals refine sl_take (h := runop_indexA 1 1 ⟨rfl, by omega, by omega⟩ rfl) ?_
          all_goals (iterate 3 refine go1l ?_)
          all_goals (first | refine go1l ?_ | ((refine sl_split 37 (fun h => ?_) (fun h => ?_)) <;> (try (exfalso; first | contradiction | omega | exact h Iff.rfl)) <;> refine go1l ?_))
          all_goals (first | refine go1l ?_ | ((refine sl_split 37 (fun h => ?_) (fun h => ?_)) <;> (try (exfalso; first | contradiction | omega | exact h Iff.rfl)) <;> refine go1l ?_))
          all_goals (first | refine go1l ?_ | ((refine sl_split 37 (fun h => ?_) (fun h => ?_)) <;> (try (exfalso; first | contradiction | omega | exact h Iff.rfl)) <;> refine go1l ?_))
          all_goals (first | refine go1l ?_ | ((refine sl_split 40 (fun h => ?_) (fun h => ?_)) <;> (try (exfalso; first | contradiction | omega | exact h Iff.rfl)) <;> refine go1l ?_))
          all_goals (first | (first | refine sl_skip ?_ | refine sl_skip_u ?_ | refine sl_take_g (h := runop_indexA 1 (8 * 1) ⟨rfl, by omega, by omega⟩ rfl) ?_) | ((refine sl_split 40 (fun h => ?_) (fun h => ?_)) <;> (try (exfalso; first | contradiction | omega | exact h Iff.rfl)) <;> (first | refine sl_skip ?_ | refine sl_skip_u ?_ | refine sl_take_g (h := runop_indexA 1 (8 * 1) ⟨rfl, by omega, by omega⟩ rfl) ?_)))
          all_goals (first | refine go1l ?_ | ((refine sl_split 40 (fun h => ?_) (fun h => ?_)) <;> (try (exfalso; first | contradiction | omega | exact h Iff.rfl)) <;> refine go1l ?_))
          all_goals (first | refine go1l ?_ | ((refine sl_split 40 (fun h => ?_) (fun h => ?_)) <;> (try (exfalso; first | contradiction | omega | exact h Iff.rfl)) <;> refine go1l ?_))
          all_goals (first | refine go1l ?_ | ((refine sl_split 40 (fun h => ?_) (fun h => ?_)) <;> (try (exfalso; first | contradiction | omega | exact h Iff.rfl)) <;> refine go1l ?_))
          all_goals (first | (first | refine sl_skip ?_ | refine sl_skip_u ?_ | refine sl_take_g (h := runop_indexA 0 0 ⟨by omega, by omega, by omega⟩ rfl) ?_) | ((refine sl_split 40 (fun h => ?_) (fun h => ?_)) <;> (try (exfalso; first | contradiction | omega | exact h Iff.rfl)) <;> (first | refine sl_skip ?_ | refine sl_skip_u ?_ | refine sl_take_g (h := runop_indexA 0 0 ⟨by omega, by omega, by omega⟩ rfl) ?_)))
          all_goals (first | refine go1l ?_ | ((refine sl_split 40 (fun h => ?_) (fun h => ?_)) <;> (try (exfalso; first | contradiction | omega | exact h Iff.rfl)) <;> refine go1l ?_))
          all_goals (first | refine go1l ?_ | ((refine sl_split 40 (fun h => ?_) (fun h => ?_)) <;> (try (exfalso; first | contradiction | omega | exact h Iff.rfl)) <;> refine go1l ?_))
          all_goals (first | refine go1l ?_ | ((refine sl_split 40 (fun h => ?_) (fun h => ?_)) <;> (try (exfalso; first | contradiction | omega | exact h Iff.rfl)) <;> refine go1l ?_))
          all_goals (first | refine go1l ?_ | ((refine sl_split 37 (fun h => ?_) (fun h => ?_)) <;> (try (exfalso; first | contradiction | omega | exact h Iff.rfl)) <;> refine go1l ?_))
          all_goals (first | refine go1l ?_ | ((refine sl_split 37 (fun h => ?_) (fun h => ?_)) <;> (try (exfalso; first | contradiction | omega | exact h Iff.rfl)) <;> refine go1l ?_))
          all_goals refine sl_done ?_
          all_goals (repeat' (first | with_reducible refine sw_in (by omega) ?_ | with_reducible (first | refine go1 ?_ | refine sct ?_ | refine scf ?_ | refine sgr ?_) | (with_reducible refine sc_cond (fun h => ?_) (fun h => ?_)) <;> (try (exfalso; first | contradiction | omega | exact h Iff.rfl)) | fail))
          all_goals
            refine sq_round ⟨1 + 1, by omega, fun _ => by omega, fun _ => by omega⟩ ?_ ?_ ?_
            · show 2 - (1 + 1) < 2 - 1
              omega
            · refine says_cons rfl (says_cons rfl (says_cons rfl (says_cons ?_ (says_cons rfl says_nil))))
              rw [show bestAt x y (1 + 1) = _ from bestAt2 x y]; subst hB; (first | rw [if_pos (by omega)] | rw [if_neg (by omega), if_pos (by omega)] | rw [if_neg (by omega), if_neg (by omega)])
            · exact Ent.refl _
        · refine sc_lin ([(b7, pts b7 (.cells (erow x.2 y.2).toArray 50 (0, 0))), (b6, pts b6 (.cells (mrow x.1 y.1).toArray 49 (0, 0)))]) (llp 0 (llp 1 (llp 2 (llp 3 (llp 4 (llp 5 (llp 6 (llp 7 (llp 8 (llp 9 (llp 10 (llp 11 (llp 12 (llp 13 (llp 14 (llp 15 (llp 16 (llp 17 (llp 18 ll0))))))))))))))))))) (by kernel_rfl) rfl (by kernel_rfl) ?_
          all_goals refine go1l ?_
          all_goals refine sl_take (h := runop_indexA 1 1 ⟨rfl, by omega, by omega⟩ rfl) ?_
          all_goals (iterate 3 refine go1l ?_)
          all_goals (first | refine go1l ?_ | ((refine sl_split 37 (fun h => ?_) (fun h => ?_)) <;> (try (exfalso; first | contradiction | omega | exact h Iff.rfl)) <;> refine go1l ?_))
          all_goals (first | refine go1l ?_ | ((refine sl_split 37 (fun h => ?_) (fun h => ?_)) <;> (try (exfalso; first | contradiction | omega | exact h Iff.rfl)) <;> refine go1l ?_))
          all_goals (first | refine go1l ?_ | ((refine sl_split 37 (fun h => ?_) (fun h => ?_)) <;> (try (exfalso; first | contradiction | omega | exact h Iff.rfl)) <;> refine go1l ?_))
          all_goals (first | refine go1l ?_ | ((refine sl_split 40 (fun h => ?_) (fun h => ?_)) <;> (try (exfalso; first | contradiction | omega | exact h Iff.rfl)) <;> refine go1l ?_))
          all_goals (first | (first | refine sl_skip ?_ | refine sl_skip_u ?_ | refine sl_take_g (h := runop_indexA 1 (8 * 1) ⟨rfl, by omega, by omega⟩ rfl) ?_) | ((refine sl_split 40 (fun h => ?_) (fun h => ?_)) <;> (try (exfalso; first | contradiction | omega | exact h Iff.rfl)) <;> (first | refine sl_skip ?_ | refine sl_skip_u ?_ | refine sl_take_g (h := runop_indexA 1 (8 * 1) ⟨rfl, by omega, by omega⟩ rfl) ?_)))
          all_goals (first | refine go1l ?_ | ((refine sl_split 40 (fun h => ?_) (fun h => ?_)) <;> (try (exfalso; first | contradiction | omega | exact h Iff.rfl)) <;> refine go1l ?_))
          all_goals (first | refine go1l ?_ | ((refine sl_split 40 (fun h => ?_) (fun h => ?_)) <;> (try (exfalso; first | contradiction | omega | exact h Iff.rfl)) <;> refine go1l ?_))
          all_goals (first | refine go1l ?_ | ((refine sl_split 40 (fun h => ?_) (fun h => ?_)) <;> (try (exfalso; first | contradiction | omega | exact h Iff.rfl)) <;> refine go1l ?_))
          all_goals (first | (first | refine sl_skip ?_ | refine sl_skip_u ?_ | refine sl_take_g (h := runop_indexA 0 0 ⟨by omega, by omega, by omega⟩ rfl) ?_) | ((refine sl_split 40 (fun h => ?_) (fun h => ?_)) <;> (try (exfalso; first | contradiction | omega | exact h Iff.rfl)) <;> (first | refine sl_skip ?_ | refine sl_skip_u ?_ | refine sl_take_g (h := runop_indexA 0 0 ⟨by omega, by omega, by omega⟩ rfl) ?_)))
          all_goals (first | refine go1l ?_ | ((refine sl_split 40 (fun h => ?_) (fun h => ?_)) <;> (try (exfalso; first | contradiction | omega | exact h Iff.rfl)) <;> refine go1l ?_))
          all_goals (first | refine go1l ?_ | ((refine sl_split 40 (fun h => ?_) (fun h => ?_)) <;> (try (exfalso; first | contradiction | omega | exact h Iff.rfl)) <;> refine go1l ?_))
          all_goals (first | refine go1l ?_ | ((refine sl_split 40 (fun h => ?_) (fun h => ?_)) <;> (try (exfalso; first | contradiction | omega | exact h Iff.rfl)) <;> refine go1l ?_))
          all_goals (first | refine go1l ?_ | ((refine sl_split 37 (fun h => ?_) (fun h => ?_)) <;> (try (exfalso; first | contradiction | omega | exact h Iff.rfl)) <;> refine go1l ?_))
          all_goals (first | refine go1l ?_ | ((refine sl_split 37 (fun h => ?_) (fun h => ?_)) <;> (try (exfalso; first | contradiction | omega | exact h Iff.rfl)) <;> refine go1l ?_))
          all_goals refine sl_done ?_
          all_goals (repeat' (first | with_reducible refine sw_in (by omega) ?_ | with_reducible (first | refine go1 ?_ | refine sct ?_ | refine scf ?_ | refine sgr ?_) | (with_reducible refine sc_cond (fun h => ?_) (fun h => ?_)) <;> (try (exfalso; first | contradiction | omega | exact h Iff.rfl)) | fail))
          all_goals
            refine sq_round ⟨1 + 1, by omega, fun _ => by omega, fun _ => by omega⟩ ?_ ?_ ?_
            · show 2 - (1 + 1) < 2 - 1
              omega
            · refine says_cons rfl (says_cons rfl (says_cons rfl (says_cons ?_ (says_cons rfl says_nil))))
              rw [show bestAt x y (1 + 1) = _ from bestAt2 x y]; subst hB; (first | rw [if_pos (by omega)] | rw [if_neg (by omega), if_pos (by omega)] | rw [if_neg (by omega), if_neg (by omega)])
            · exact Ent.refl _
  · have h2 : i = 2 := by omega
    subst h2
    have hx1 := hx (by omega)
    have hy1 := hy (by omega)
    rcases Classical.em (y.2 = 0 ∧ (x.2 ≠ 0 ∨ x.1.seq < y.1.seq)) with hA | hA
    · rw [show bestAt x y 2 = 1 from by unfold bestAt; rw [if_neg (by omega), if_neg (by omega), if_pos hA]]
      repeat' (first | with_reducible refine sw_in (by omega) ?_ | with_reducible (first | refine go1 ?_ | refine sct ?_ | refine scf ?_ | refine sgr ?_) | (with_reducible refine sc_cond (fun h => ?_) (fun h => ?_)) <;> (try (exfalso; first | contradiction | omega | exact h Iff.rfl)) | fail)
      refine sw_indexA 1 8 ⟨rfl, by omega, by omega⟩ rfl ?_
      refine sw_loadPart y.1.cs rfl rfl ?_
      refine sw_store_agg ?_
      repeat' (first | with_reducible (first | refine go1 ?_ | refine sct ?_ | refine scf ?_ | refine sgr ?_) | fail)
      refine sq_resAT Try.results21 (by first | exact .inl rfl | exact .inr rfl) rfl ?_
      refine ⟨_, ⟨?_, rfl⟩, ?_⟩
      · have h9 : readM x y = (y.1, 0) := by unfold readM; rw [if_neg (by omega), if_neg (by omega), if_pos hA]
        rw [h9]
      · repeat' (first | with_reducible exact Ent.refl _ | with_reducible refine Ent.take_eq ?_ ?_ | rfl | with_reducible refine Ent.trans (Ent.drop _ _) ?_)
    · rcases Classical.em (x.2 = 0) with hx0 | hx0
      · rw [show bestAt x y 2 = 0 from by unfold bestAt; rw [if_neg (by omega), if_neg (by omega), if_neg hA, if_pos hx0]]
        repeat' (first | with_reducible refine sw_in (by omega) ?_ | with_reducible (first | refine go1 ?_ | refine sct ?_ | refine scf ?_ | refine sgr ?_) | (with_reducible refine sc_cond (fun h => ?_) (fun h => ?_)) <;> (try (exfalso; first | contradiction | omega | exact h Iff.rfl)) | fail)
        refine sw_indexA 0 0 ⟨rfl, by omega, by omega⟩ rfl ?_
        refine sw_loadPart x.1.cs rfl rfl ?_
        refine sw_store_agg ?_
        repeat' (first | with_reducible (first | refine go1 ?_ | refine sct ?_ | refine scf ?_ | refine sgr ?_) | fail)
        refine sq_resAT Try.results21 (by first | exact .inl rfl | exact .inr rfl) rfl ?_
        refine ⟨_, ⟨?_, rfl⟩, ?_⟩
        · have h9 : readM x y = (x.1, 0) := by unfold readM; rw [if_neg (by omega), if_neg (by omega), if_neg hA, if_pos hx0]
          rw [h9]
        · repeat' (first | with_reducible exact Ent.refl _ | with_reducible refine Ent.take_eq ?_ ?_ | rfl | with_reducible refine Ent.trans (Ent.drop _ _) ?_)
      · rw [show bestAt x y 2 = -1 from by unfold bestAt; rw [if_neg (by omega), if_neg (by omega), if_neg hA, if_neg hx0]]
        repeat' (first | with_reducible refine sw_in (by omega) ?_ | with_reducible (first | refine go1 ?_ | refine sct ?_ | refine scf ?_ | refine sgr ?_) | (with_reducible refine sc_cond (fun h => ?_) (fun h => ?_)) <;> (try (exfalso; first | contradiction | omega | exact h Iff.rfl)) | fail)
        refine sw_build Ms.zero.cs (by kernel_rfl) ?_
        refine sw_store_agg ?_
        repeat' (first | with_reducible (first | refine go1 ?_ | refine sct ?_ | refine scf ?_ | refine sgr ?_) | fail)
        refine sq_resAT Try.results21 (by first | exact .inl rfl | exact .inr rfl) rfl ?_
        refine ⟨_, ⟨?_, rfl⟩, ?_⟩
        · have h9 : readM x y = (Ms.zero, 200) := by unfold readM; rw [if_neg (by omega), if_neg (by omega), if_neg hA, if_neg hx0]
          rw [h9]
        · repeat' (first | with_reducible exact Ent.refl _ | with_reducible refine Ent.take_eq ?_ ?_ | rfl | with_reducible refine Ent.trans (Ent.drop _ _) ?_)
end Go.Gsl

namespace Go.Gsl
set_option linter.unusedVariables false
open Go.Proofs

/-- a disk that no call made -/
def NoneD (v : Value) (k : Nat) (r : HProp) : Prop := Spec Try.prog 81 [v] [k] [r] fun F w Rs' => w = .bool true ∧ Rs' = (k, r) :: F
theorem NoneD.nil (k : Nat) (r : HProp) : NoneD (.pointer none) k r := fun w0 F => dNone_nil w0 ((k, r) :: F)
theorem NoneD.zero (p : Nat) : NoneD (.pointer (some ⟨p, 0, none⟩)) p (pts p dzero) := dNone_zero p
theorem NoneD.looks {v : Value} {k : Nat} {r : HProp} (hN : NoneD v k r) (a : Int) : Spec Try.prog 83 [v, .int .i64 a] [k] [r] fun F w Rs' => w = .int .i64 2 ∧ Rs' = (k, r) :: F := by
  unfold NoneD at hN
  refine spec_of Try.func83 rfl Try.ntmps83 rfl ?_
  intro w0 F
  repeat' (first | with_reducible (first | refine go1 ?_ | refine sct ?_ | refine scf ?_ | refine sgr ?_) | ((with_reducible refine sw_call hN ?_); rintro _ _ ⟨rfl, rfl⟩) | (with_reducible refine sc_cond (fun h => ?_) (fun h => ?_)) <;> (try (exfalso; first | contradiction | omega | exact h Iff.rfl)) | (with_reducible refine sw_guard_split (fun h => ?_) (fun h => ?_)) <;> (try (exfalso; first | contradiction | omega | exact h Iff.rfl)) | (with_reducible refine sw_pick (fun h => ?_) (fun h => ?_)) <;> (try (exfalso; first | contradiction | omega | exact h Iff.rfl)) | fail)
  refine sq_ret1 Try.results83 ?_
  exact ⟨_, ⟨rfl, rfl⟩, Ent.refl _⟩
theorem NoneD.rd {v : Value} {k : Nat} {r : HProp} (hN : NoneD v k r) : RdSpec v k r fun _ => ([], 2) := by
  intro a
  refine spec_of Try.func65 rfl Try.ntmps65 rfl ?_
  intro w0 F
  repeat' (first | with_reducible (first | refine go1 ?_ | refine sct ?_ | refine scf ?_ | refine sgr ?_) | ((with_reducible refine sw_call (hN.looks a) ?_); rintro _ _ ⟨rfl, rfl⟩) | (with_reducible refine sc_cond (fun h => ?_) (fun h => ?_)) <;> (try (exfalso; first | contradiction | omega | exact h Iff.rfl)) | (with_reducible refine sw_guard_split (fun h => ?_) (fun h => ?_)) <;> (try (exfalso; first | contradiction | omega | exact h Iff.rfl)) | (with_reducible refine sw_pick (fun h => ?_) (fun h => ?_)) <;> (try (exfalso; first | contradiction | omega | exact h Iff.rfl)) | fail)
  refine sq_ret2 Try.results65 ?_
  exact ⟨_, .inl ⟨show (2 : Int) ≠ 0 by decide, rfl, rfl⟩, Ent.refl _⟩
theorem NoneD.sectors {v : Value} {k : Nat} {r : HProp} (hN : NoneD v k r) : Spec Try.prog 66 [v] [k] [r] fun F w Rs' => w = .int .i64 0 ∧ Rs' = (k, r) :: F := by
  unfold NoneD at hN
  refine spec_of Try.func66 rfl Try.ntmps66 rfl ?_
  intro w0 F
  repeat' (first | with_reducible (first | refine go1 ?_ | refine sct ?_ | refine scf ?_ | refine sgr ?_) | ((with_reducible refine sw_call hN ?_); rintro _ _ ⟨rfl, rfl⟩) | (with_reducible refine sc_cond (fun h => ?_) (fun h => ?_)) <;> (try (exfalso; first | contradiction | omega | exact h Iff.rfl)) | (with_reducible refine sw_guard_split (fun h => ?_) (fun h => ?_)) <;> (try (exfalso; first | contradiction | omega | exact h Iff.rfl)) | (with_reducible refine sw_pick (fun h => ?_) (fun h => ?_)) <;> (try (exfalso; first | contradiction | omega | exact h Iff.rfl)) | fail)
  refine sq_ret1 Try.results66 ?_
  exact ⟨_, ⟨rfl, rfl⟩, Ent.refl _⟩
theorem NoneD.write {v : Value} {k : Nat} {r : HProp} (hN : NoneD v k r) (a : Int) (m : Ms) : Spec Try.prog 24 [v, .int .i64 a, .agg m.cs.toArray] [k] [r] fun F w Rs' => w = .int .i64 2 ∧ Rs' = (k, r) :: F := by
  refine spec_of Try.func24 rfl Try.ntmps24 rfl ?_
  intro w0 F
  repeat' (first | with_reducible (first | refine go1 ?_ | refine sct ?_ | refine scf ?_ | refine sgr ?_) | fail)
  refine sw_box fun b => ?_
  repeat' (first | with_reducible (first | refine go1 ?_ | refine sct ?_ | refine scf ?_ | refine sgr ?_) | ((with_reducible refine sw_call hN.sectors ?_); rintro _ _ ⟨rfl, rfl⟩) | (with_reducible refine sc_cond (fun h => ?_) (fun h => ?_)) <;> (try (exfalso; first | contradiction | omega | exact h Iff.rfl)) | fail)
  refine sq_ret1 Try.results24 ?_
  refine ⟨_, ⟨rfl, rfl⟩, ?_⟩
  repeat' (first | with_reducible exact Ent.refl _ | with_reducible refine Ent.take_eq ?_ ?_ | rfl | with_reducible refine Ent.trans (Ent.drop _ _) ?_)

/-- a disk's sectors -/
theorem rd_disk_wf (p : Nat) (s : Dk) (hwf : s.Wf) : RdSpec (.pointer (some ⟨p, 0, none⟩)) p (DISK p s) fun a => (s.now a, s.looks a) := by
  intro a
  rcases Classical.em (s.looks a = 0) with h | h
  · refine (dRead_ok p s a h).mono fun F v Rs' => ?_
    rintro ⟨b, rfl, rfl⟩
    have hin : 0 ≤ a ∧ a < s.sure.length := by
      unfold Dk.looks at h
      split at h
      · cases h
      · split at h
        · cases h
        · omega
    have hs := Dk.now_wf hwf hin.1 hin.2
    refine .inr ⟨h, hs.byte, hs.len, b, ?_, rfl⟩
    simp only [hs.len]
  · refine (dRead_bad p s a h).mono fun F v Rs' => ?_
    rintro ⟨rfl, rfl⟩
    exact .inl ⟨h, rfl, rfl⟩
theorem rd_disk (p : Nat) (s : Dk) : RdSpec (.pointer (some ⟨p, 0, none⟩)) p (DISK p s) fun a => (s.now a, s.looks a) := by
  intro a w0 F w hw
  obtain ⟨x, hx, _⟩ := DISK.openS hw
  exact rd_disk_wf p s hx.wf a w0 F w hw

/-- what Write does -/
def MW (s : Dk) (a : Int) (m : Ms) (s' : Dk) (e : Int) : Prop :=
  (m.chk ≠ 0 ∧ e = m.chk ∧ s' = s) ∨ (m.chk = 0 ∧ s.looks (m.place a) ≠ 0 ∧ e = s.looks (m.place a) ∧ s' = s) ∨
  (m.chk = 0 ∧ s.looks (m.place a) = 0 ∧ s.fuse = 1 ∧ e = 6 ∧ ∃ ks, KeysD (s.wrote (m.place a) m.sec).dirty ks ∧ s' = (s.wrote (m.place a) m.sec).gone ks s.keep) ∨
  (m.chk = 0 ∧ s.looks (m.place a) = 0 ∧ s.fuse ≠ 1 ∧ (s.wrote (m.place a) m.sec).fuse = 1 ∧ e = 6 ∧ ∃ ks, KeysD (s.wrote (m.place a) m.sec).dirty ks ∧ s' = (s.wrote (m.place a) m.sec).met.gone ks (s.wrote (m.place a) m.sec).keep) ∨
  (m.chk = 0 ∧ s.looks (m.place a) = 0 ∧ s.fuse ≠ 1 ∧ (s.wrote (m.place a) m.sec).fuse ≠ 1 ∧ e = 0 ∧ s' = (s.wrote (m.place a) m.sec).barred)

theorem mWrite_ok (p : Nat) (s : Dk) (a : Int) (m : Ms) (hm : m.In) (ha : -4611686018427387904 ≤ a ∧ a ≤ 4611686018427387000) :
    Spec Try.prog 24 [.pointer (some ⟨p, 0, none⟩), .int .i64 a, .agg m.cs.toArray] [p] [DISK p s] fun F w Rs' => ∃ s' e, MW s a m s' e ∧ w = .int .i64 e ∧ Rs' = (p, DISK p s') :: F := by
  refine spec_of Try.func24 rfl Try.ntmps24 rfl ?_
  intro w0 F
  refine DISK.scwf (p := p) (s := s) fun hwf => ?_
  have hn1 := hwf.n1
  repeat' (first | with_reducible (first | refine go1 ?_ | refine sct ?_ | refine scf ?_ | refine sgr ?_) | fail)
  refine sw_box fun b => ?_
  repeat' (first | with_reducible (first | refine go1 ?_ | refine sct ?_ | refine scf ?_ | refine sgr ?_) | ((with_reducible refine sw_call (dSectors_ok p s) ?_); rintro _ _ ⟨rfl, rfl⟩) | (with_reducible refine sc_cond (fun h => ?_) (fun h => ?_)) <;> (try (exfalso; first | contradiction | omega | exact h Iff.rfl)) | fail)
  refine sw_call (mSector_ok p (DISK p s) m hm) ?_
  rintro _ _ (⟨hc, rfl, rfl⟩ | ⟨hc, b1, rfl, rfl⟩)
  · repeat' (first | with_reducible (first | refine go1 ?_ | refine sct ?_ | refine scf ?_ | refine sgr ?_) | (with_reducible refine sc_cond (fun h => ?_) (fun h => ?_)) <;> (try (exfalso; first | contradiction | omega | exact h Iff.rfl)) | fail)
    refine sq_ret1 Try.results24 ?_
    refine ⟨_, ⟨s, m.chk, .inl ⟨hc, rfl, rfl⟩, rfl, rfl⟩, ?_⟩
    repeat' (first | with_reducible exact Ent.refl _ | with_reducible refine Ent.take_eq ?_ ?_ | rfl | with_reducible refine Ent.trans (Ent.drop _ _) ?_)
  · repeat' (first | with_reducible (first | refine go1 ?_ | refine sct ?_ | refine scf ?_ | refine sgr ?_) | ((with_reducible refine sw_call (mPlace_ok a m (by omega)) ?_); rintro _ _ ⟨rfl, rfl⟩) | (with_reducible refine sc_cond (fun h => ?_) (fun h => ?_)) <;> (try (exfalso; first | contradiction | omega | exact h Iff.rfl)) | fail)
    refine sw_call (dWrite_any p b1 s _ (some ⟨b1, 0, none⟩) 512 (m.place a) m.sec ⟨m.sec_len, m.sec_byt⟩ (by simp) reads_row0) ?_
    rintro _ _ (⟨hl, rfl, rfl⟩ | ⟨hl, hf, rfl, rfl⟩ | ⟨hl, hf, rfl, ks, hk, rfl⟩)
    · repeat' (first | with_reducible (first | refine go1 ?_ | refine sct ?_ | refine scf ?_ | refine sgr ?_) | (with_reducible refine sc_cond (fun h => ?_) (fun h => ?_)) <;> (try (exfalso; first | contradiction | omega | exact h Iff.rfl)) | fail)
      refine sq_ret1 Try.results24 ?_
      refine ⟨_, ⟨s, _, .inr (.inl ⟨hc, hl, rfl, rfl⟩), rfl, rfl⟩, ?_⟩
      repeat' (first | with_reducible exact Ent.refl _ | with_reducible refine Ent.take_eq ?_ ?_ | rfl | with_reducible refine Ent.trans (Ent.drop _ _) ?_)
    · repeat' (first | with_reducible (first | refine go1 ?_ | refine sct ?_ | refine scf ?_ | refine sgr ?_) | (with_reducible refine sc_cond (fun h => ?_) (fun h => ?_)) <;> (try (exfalso; first | contradiction | omega | exact h Iff.rfl)) | fail)
      have hb0 : (s.wrote (m.place a) m.sec).looks 0 = 0 := by
        unfold Dk.looks at hl ⊢
        have e1 : (s.wrote (m.place a) m.sec).down = s.down := rfl
        have e2 : (s.wrote (m.place a) m.sec).sure = s.sure := rfl
        rw [e1, e2]
        split at hl
        · cases hl
        · rename_i hd
          rw [if_neg hd, if_neg (by omega)]
      refine sw_call (dBarrier_ok p _ hb0) ?_
      rintro _ _ (⟨hf2, rfl, rfl⟩ | ⟨hf2, rfl, ks, hk, rfl⟩)
      · repeat' (first | with_reducible (first | refine go1 ?_ | refine sct ?_ | refine scf ?_ | refine sgr ?_) | fail)
        refine sq_ret1 Try.results24 ?_
        refine ⟨_, ⟨_, 0, .inr (.inr (.inr (.inr ⟨hc, hl, hf, hf2, rfl, rfl⟩))), rfl, rfl⟩, ?_⟩
        repeat' (first | with_reducible exact Ent.refl _ | with_reducible refine Ent.take_eq ?_ ?_ | rfl | with_reducible refine Ent.trans (Ent.drop _ _) ?_)
      · repeat' (first | with_reducible (first | refine go1 ?_ | refine sct ?_ | refine scf ?_ | refine sgr ?_) | fail)
        refine sq_ret1 Try.results24 ?_
        refine ⟨_, ⟨_, 6, .inr (.inr (.inr (.inl ⟨hc, hl, hf, hf2, rfl, ks, hk, rfl⟩))), rfl, rfl⟩, ?_⟩
        repeat' (first | with_reducible exact Ent.refl _ | with_reducible refine Ent.take_eq ?_ ?_ | rfl | with_reducible refine Ent.trans (Ent.drop _ _) ?_)
    · repeat' (first | with_reducible (first | refine go1 ?_ | refine sct ?_ | refine scf ?_ | refine sgr ?_) | (with_reducible refine sc_cond (fun h => ?_) (fun h => ?_)) <;> (try (exfalso; first | contradiction | omega | exact h Iff.rfl)) | fail)
      refine sq_ret1 Try.results24 ?_
      refine ⟨_, ⟨_, 6, .inr (.inr (.inl ⟨hc, hl, hf, rfl, ks, hk, rfl⟩)), rfl, rfl⟩, ?_⟩
      repeat' (first | with_reducible exact Ent.refl _ | with_reducible refine Ent.take_eq ?_ ?_ | rfl | with_reducible refine Ent.trans (Ent.drop _ _) ?_)
end Go.Gsl

namespace Go.Gsl
set_option linter.unusedVariables false
open Go.Proofs

section
variable (w : World)
set_option maxRecDepth 20000 in
theorem eqMark (d : Nat) (a b c e a' b' c' e' : Int) : (Op.equalIn (d + 2) 23 (.agg #[.int .i64 a, .int .i64 b, .int .i64 c, .int .i64 e]) (.agg #[.int .i64 a', .int .i64 b', .int .i64 c', .int .i64 e'])).run Try.prog w = .ok (a == a' && (b == b' && (c == c' && (e == e' && true)))) w := by
  have hf := fieldsOf_und Try.underlying23
  rw [run_equalIn_struct w (d + 1) _ _ _ (by rw [hf]; exact Try.underlying23) (by kernel_rfl), hf]
  refine eqF_int w (by decide) Try.underlying2 rfl rfl ?_
  refine eqF_int w (by decide) Try.underlying3 rfl rfl ?_
  refine eqF_int w (by decide) Try.underlying2 rfl rfl ?_
  refine eqF_int w (by decide) Try.underlying2 rfl rfl ?_
  exact eqF_nil w _ _ _
def Ms.beq (x y : Ms) : Bool := x.seq == y.seq && (x.area == y.area && (x.chunks == y.chunks && (x.ts == y.ts && ((x.sector == y.sector && (x.offset == y.offset && (x.number == y.number && (x.run == y.run && true)))) && true))))
theorem Ms.beq_iff (x y : Ms) : x.beq y = true ↔ x = y := by
  cases x; cases y
  simp [Ms.beq]
set_option maxRecDepth 20000 in
theorem eqMs (d : Nat) (x y : Ms) : (Op.equalIn (d + 3) 34 (.agg x.cs.toArray) (.agg y.cs.toArray)).run Try.prog w = .ok (x.beq y) w := by
  have hf := fieldsOf_und Try.underlying34
  rw [show d + 3 = (d + 2) + 1 from rfl, run_equalIn_struct w (d + 2) _ _ _ (by rw [hf]; exact Try.underlying34) (by kernel_rfl), hf]
  refine eqF_int w (by decide) Try.underlying2 rfl rfl ?_
  refine eqF_int w (by decide) Try.underlying3 rfl rfl ?_
  refine eqF_int w (by decide) Try.underlying3 rfl rfl ?_
  refine eqF_int w (by decide) Try.underlying2 rfl rfl ?_
  have h1 : (part 23 x.cs.toArray 4).run Try.prog w = .ok (.agg #[.int .i64 x.sector, .int .i64 x.offset, .int .i64 x.number, .int .i64 x.run]) w := part_agg' w (by kernel_rfl)
  have h2 : (part 23 y.cs.toArray 4).run Try.prog w = .ok (.agg #[.int .i64 y.sector, .int .i64 y.offset, .int .i64 y.number, .int .i64 y.run]) w := part_agg' w (by kernel_rfl)
  exact eqF_step w (by decide) h1 h2 (eqMark w d _ _ _ _ _ _ _ _) (eqF_nil w _ _ _)
end
instance (x y : Ms) : EqAgg Try.prog 34 [.int .i64 x.seq, .int .i64 x.area, .int .i64 x.chunks, .int .i64 x.ts, .int .i64 x.sector, .int .i64 x.offset, .int .i64 x.number, .int .i64 x.run] [.int .i64 y.seq, .int .i64 y.area, .int .i64 y.chunks, .int .i64 y.ts, .int .i64 y.sector, .int .i64 y.offset, .int .i64 y.number, .int .i64 y.run] (x.beq y) := ⟨fun w => eqMs w 9997 x y, by kernel_rfl⟩
theorem eqMss (w : World) (d : Nat) (x x' y y' : Ms) : (Op.equalIn (d + 4) 49 (.agg (mrow x x').toArray) (.agg (mrow y y').toArray)).run Try.prog w = .ok (x.beq y && (x'.beq y' && true)) w := by
  obtain ⟨i, hi⟩ : ∃ i, (Try.prog).info? 34 = some i := info_of_underlying Try.underlying34
  rw [run_equalIn_array w (d + 3) _ _ Try.underlying49 hi]
  have hc : (Try.prog).cellsOf 34 = 8 := by kernel_rfl
  rw [hc]
  refine eqI_step w (part_agg' w (ys := x.cs.toArray) (by kernel_rfl)) (part_agg' w (ys := y.cs.toArray) (by kernel_rfl)) (eqMs w d x y) ?_
  refine eqI_step w (part_agg' w (ys := x'.cs.toArray) (by kernel_rfl)) (part_agg' w (ys := y'.cs.toArray) (by kernel_rfl)) (eqMs w d x' y') ?_
  exact eqI_nil w _ _ _ _ _
theorem eqErrs (w : World) (d : Nat) (x x' y y' : Int) : (Op.equalIn (d + 2) 50 (.agg (erow x x').toArray) (.agg (erow y y').toArray)).run Try.prog w = .ok (x == y && (x' == y' && true)) w := by
  obtain ⟨i, hi⟩ : ∃ i, (Try.prog).info? 25 = some i := info_of_underlying Try.underlying25
  rw [run_equalIn_array w (d + 1) _ _ Try.underlying50 hi]
  have hc : (Try.prog).cellsOf 25 = 1 := by kernel_rfl
  rw [hc]
  refine eqI_step w (part_one w rfl) (part_one w rfl) (run_equalIn_int w d _ _ _ _ _ Try.underlying25) ?_
  refine eqI_step w (part_one w rfl) (part_one w rfl) (run_equalIn_int w d _ _ _ _ _ Try.underlying25) ?_
  exact eqI_nil w _ _ _ _ _
instance (x x' y y' : Ms) : EqAgg Try.prog 49 (mrow x x') (mrow y y') (x.beq y && (x'.beq y' && true)) := ⟨fun w => eqMss w 9996 x x' y y', by kernel_rfl⟩
instance (x x' y y' : Int) : EqAgg Try.prog 50 [.int .i64 x, .int .i64 x'] [.int .i64 y, .int .i64 y'] (x == y && (x' == y' && true)) := ⟨fun w => eqErrs w 9998 x x' y y', by kernel_rfl⟩
end Go.Gsl

namespace Go.Gsl
set_option linter.unusedVariables false
open Go.Proofs

def Ms.first : Ms := ⟨1, 0, 1, 0, 0, 0, 0, 0⟩
theorem first_in : Ms.first.In := by
  intro x hx
  simp only [Ms.l, Ms.first, List.mem_cons, List.not_mem_nil, or_false] at hx
  unfold I64; omega
theorem l20first_ok : Spec Try.prog 36 [] [] [] fun F v Rs' => v = .agg Ms.first.cs.toArray ∧ Rs' = F := by
  refine spec_of Try.func36 rfl Try.ntmps36 rfl ?_
  intro w0 F
  repeat' (first | with_reducible (first | refine go1 ?_ | refine sct ?_ | refine scf ?_ | refine sgr ?_) | fail)
  refine sw_alloc fun b => ?_
  repeat' (first | with_reducible (first | refine go1 ?_ | refine sct ?_ | refine scf ?_ | refine sgr ?_) | fail)
  refine sw_build Ms.first.cs (by kernel_rfl) ?_
  refine sw_store_agg ?_
  repeat' (first | with_reducible (first | refine go1 ?_ | refine sct ?_ | refine scf ?_ | refine sgr ?_) | fail)
  refine sq_resA Try.results36 (by first | exact .inl rfl | exact .inr rfl) rfl ?_
  exact ⟨_, ⟨rfl, rfl⟩, Ent.drop _ _⟩

theorem parse_zeros : parseM (List.replicate 512 0) = (Ms.zero, 200) := by kernel_rfl
theorem parse_first : parseM Ms.first.sec = (Ms.first, 0) := by kernel_rfl

theorem merge_at (g : Int → Option (List Int)) (ss : List (List Int)) (i : Nat) (h : i < ss.length) : (mergeS g ss)[i]? = some ((g i).getD (ss[i]?.getD [])) := by
  unfold mergeS
  rw [List.getElem?_mapIdx, List.getElem?_eq_getElem h]
  rfl
/-- the sectors after a write that is sure -/
theorem now_written {s : Dk} {a : Int} {xs : List Int} (i : Nat) (hi : i < s.sure.length) : (s.wrote a xs).barred.now i = if (i : Int) = a then xs else s.now i := by
  have e1 : (s.wrote a xs).barred.now i = ((mergeS (s.wrote a xs).dirty s.sure)[i]?).getD [] := rfl
  rw [e1, merge_at _ _ _ hi]
  show ((if (i : Int) = a then some xs else s.dirty i).getD ((s.sure[i]?).getD [])) = _
  split
  · rfl
  · rfl
theorem looks_written {s : Dk} {a : Int} {xs : List Int} (i : Int) : (s.wrote a xs).barred.looks i = s.looks i := by
  unfold Dk.looks
  have e1 : (s.wrote a xs).barred.down = s.down := rfl
  have e2 : (s.wrote a xs).barred.sure.length = s.sure.length := by
    show (mergeS (s.wrote a xs).dirty s.sure).length = _
    unfold mergeS; rw [List.length_mapIdx]
  rw [e1, e2]

def dkf (s : Dk) : Int → List Int × Int := fun a => (s.now a, s.looks a)
theorem begun_one (i : Int) (h : i = 0 ∨ i = 1) : one (dkf (Dk.new 4)) 0 i = (Ms.zero, 200) := by
  have h1 : (dkf (Dk.new 4) (0 + i)) = (List.replicate 512 0, 0) := by
    rcases h with rfl | rfl <;> rfl
  unfold one
  rw [h1, parse_zeros]
  rfl
theorem begun_write {s' : Dk} {e : Int} (h : MW (Dk.new 4) 0 Ms.first s' e) : e = 0 ∧ one (dkf s') 0 0 = (Ms.zero, 200) ∧ one (dkf s') 0 1 = (Ms.first, 0) := by
  have hc : Ms.first.chk = 0 := by decide
  have hp : Ms.first.place 0 = 1 := by decide
  have hl : (Dk.new 4).looks 1 = 0 := by decide
  rcases h with ⟨h, _⟩ | ⟨_, h, _⟩ | ⟨_, _, h, _⟩ | ⟨_, _, _, h, _⟩ | ⟨_, _, _, _, rfl, rfl⟩
  · exact absurd hc h
  · rw [hp] at h; exact absurd hl h
  · exact absurd h (by decide)
  · exact absurd h (by rw [hp]; decide)
  · rw [hp]
    refine ⟨rfl, ?_, ?_⟩
    · have h1 : (dkf ((Dk.new 4).wrote 1 Ms.first.sec).barred (0 + 0)) = (List.replicate 512 0, 0) := by
        have a1 := now_written (s := Dk.new 4) (a := 1) (xs := Ms.first.sec) 0 (by decide)
        have a2 := looks_written (s := Dk.new 4) (a := 1) (xs := Ms.first.sec) 0
        unfold dkf
        rw [show ((0 : Int) + 0) = ((0 : Nat) : Int) from rfl, a1]
        rw [show (((0 : Nat) : Int)) = 0 from rfl, a2]
        rfl
      unfold one
      rw [h1, parse_zeros]
      rfl
    · have h1 : (dkf ((Dk.new 4).wrote 1 Ms.first.sec).barred (0 + 1)) = (Ms.first.sec, 0) := by
        have a1 := now_written (s := Dk.new 4) (a := 1) (xs := Ms.first.sec) 1 (by decide)
        have a2 := looks_written (s := Dk.new 4) (a := 1) (xs := Ms.first.sec) 1
        unfold dkf
        rw [show ((0 : Int) + 1) = ((1 : Nat) : Int) from rfl, a1]
        rw [show (((1 : Nat) : Int)) = 1 from rfl, a2]
        rfl
      unfold one
      rw [h1, parse_first]
      rfl

theorem dNew_4 : Spec Try.prog 31 [.int .i64 4] [] [] fun F v Rs' => ∃ p, v = .tuple #[.pointer (some ⟨p, 0, none⟩), .int .i64 0] ∧ Rs' = (p, DISK p (Dk.new 4)) :: F := dNew_ok 4 (by omega) (by omega)

theorem l20begun_ok : Spec Try.prog 19 [] [] [] fun F v Rs' => v = .bool true ∧ Rs' = F := by
  refine spec_of Try.func19 rfl Try.ntmps19 rfl ?_
  intro w0 F
  repeat' (first | with_reducible (first | refine go1 ?_ | refine sct ?_ | refine scf ?_ | refine sgr ?_) | fail)
  refine sw_call dNew_4 ?_
  rintro _ _ ⟨p, rfl, rfl⟩
  repeat' (first | with_reducible (first | refine go1 ?_ | refine sct ?_ | refine scf ?_ | refine sgr ?_) | with_reducible refine sw_guard_skip_u ?_ | (with_reducible refine sw_guard_split (fun h => ?_) (fun h => ?_)) <;> (try (exfalso; first | contradiction | omega | exact h Iff.rfl)) | (with_reducible refine sc_cond (fun h => ?_) (fun h => ?_)) <;> (try (exfalso; first | contradiction | omega | exact h Iff.rfl)) | (with_reducible refine sw_pick (fun h => ?_) (fun h => ?_)) <;> (try (exfalso; first | contradiction | omega | exact h Iff.rfl)) | fail)
  refine sw_call (mRead_ok _ p _ (dkf (Dk.new 4)) (rd_disk p (Dk.new 4)) 0 (by omega)) ?_
  rintro _ _ ⟨rfl, rfl⟩
  have h1 : readM (one (dkf (Dk.new 4)) 0 0) (one (dkf (Dk.new 4)) 0 1) = (Ms.zero, 200) := by
    rw [begun_one 0 (.inl rfl), begun_one 1 (.inr rfl)]; rfl
  rw [h1]
  repeat' (first | with_reducible (first | refine go1 ?_ | refine sct ?_ | refine scf ?_ | refine sgr ?_) | ((with_reducible refine sw_call l20first_ok ?_); rintro _ _ ⟨rfl, rfl⟩) | fail)
  refine sw_call (mWrite_ok p (Dk.new 4) 0 Ms.first first_in (by omega)) ?_
  rintro _ _ ⟨s', e, hMW, rfl, rfl⟩
  obtain ⟨rfl, h2, h3⟩ := begun_write hMW
  repeat' (first | with_reducible (first | refine go1 ?_ | refine sct ?_ | refine scf ?_ | refine sgr ?_) | fail)
  refine sw_call (mRead_ok _ p _ (dkf s') (rd_disk p s') 0 (by omega)) ?_
  rintro _ _ ⟨rfl, rfl⟩
  have h4 : readM (one (dkf s') 0 0) (one (dkf s') 0 1) = (Ms.first, 0) := by rw [h2, h3]; rfl
  rw [h4]
  clear hMW h1 h2 h3 h4
  repeat' (first | with_reducible (first | refine go1 ?_ | refine sct ?_ | refine scf ?_ | refine sgr ?_) | fail)
  refine sw_alloc fun b => ?_
  refine sw_store_agg ?_
  repeat' (first | with_reducible (first | refine go1 ?_ | refine sct ?_ | refine scf ?_ | refine sgr ?_) | fail)
  refine sc_lin ([(b, pts b (.cells Ms.first.cs.toArray 34 (0, 0)))]) (llp 0 (llp 1 (llp 2 (llp 3 (llp 4 (llp 5 (llp 6 (llp 7 (llp 8 (llp 9 (llp 10 (llp 11 (lle 12 (llp 13 (llp 14 (llp 15 ll0)))))))))))))))) (by kernel_rfl) rfl (by kernel_rfl) ?_
  all_goals (iterate 3 refine go1l ?_)
  all_goals (first | refine go1l ?_ | ((refine sl_split 31 (fun h => ?_) (fun h => ?_)) <;> (try (exfalso; first | contradiction | omega | exact h Iff.rfl)) <;> refine go1l ?_))
  all_goals (first | refine go1l ?_ | ((refine sl_split 31 (fun h => ?_) (fun h => ?_)) <;> (try (exfalso; first | contradiction | omega | exact h Iff.rfl)) <;> refine go1l ?_))
  all_goals (first | refine go1l ?_ | ((refine sl_split 31 (fun h => ?_) (fun h => ?_)) <;> (try (exfalso; first | contradiction | omega | exact h Iff.rfl)) <;> refine go1l ?_))
  all_goals refine go1l ?_
  all_goals (first | refine go1l ?_ | ((refine sl_split 35 (fun h => ?_) (fun h => ?_)) <;> (try (exfalso; first | contradiction | omega | exact h Iff.rfl)) <;> refine go1l ?_))
  all_goals (first | refine go1l ?_ | ((refine sl_split 35 (fun h => ?_) (fun h => ?_)) <;> (try (exfalso; first | contradiction | omega | exact h Iff.rfl)) <;> refine go1l ?_))
  all_goals (first | refine go1l ?_ | ((refine sl_split 35 (fun h => ?_) (fun h => ?_)) <;> (try (exfalso; first | contradiction | omega | exact h Iff.rfl)) <;> refine go1l ?_))
  all_goals refine go1l ?_
  all_goals (first | refine go1l ?_ | ((refine sl_split 39 (fun h => ?_) (fun h => ?_)) <;> (try (exfalso; first | contradiction | omega | exact h Iff.rfl)) <;> refine go1l ?_))
  all_goals refine sl_eff ?_
  all_goals (repeat' (first | with_reducible (first | refine go1 ?_ | refine sct ?_ | refine scf ?_ | refine sgr ?_) | ((with_reducible refine sw_call l20first_ok ?_); rintro _ _ ⟨rfl, rfl⟩) | with_reducible refine sl_back ?_ | fail))
  all_goals (first | refine go1l ?_ | ((refine sl_split 39 (fun h => ?_) (fun h => ?_)) <;> (try (exfalso; first | contradiction | omega | exact h Iff.rfl)) <;> refine go1l ?_))
  all_goals (first | refine go1l ?_ | ((refine sl_split 39 (fun h => ?_) (fun h => ?_)) <;> (try (exfalso; first | contradiction | omega | exact h Iff.rfl)) <;> refine go1l ?_))
  all_goals refine go1l ?_
  all_goals refine sl_done ?_
  repeat' (first | with_reducible (first | refine go1 ?_ | refine sct ?_ | refine scf ?_ | refine sgr ?_) | fail)
  refine sq_ret1 Try.results19 ?_
  refine ⟨_, ⟨?_, rfl⟩, ?_⟩
  · rfl
  · repeat' (first | with_reducible exact Ent.refl _ | with_reducible refine Ent.take_eq ?_ ?_ | rfl | with_reducible refine Ent.trans (Ent.drop _ _) ?_)
end Go.Gsl

namespace Go.Gsl
set_option linter.unusedVariables false
open Go.Proofs Go.RowKit Go.ChangeShapes Go.WideShapes

theorem read_fieldW {P : Program} {t : TypeId} {H : Type} {enc : TypeId × Value → H} {W : World} {fs : Array Field} {cs : List Value} {fuel : Nat} {x : DataW H × List MemPlace} (hu : P.underlying t = some (.struct fs)) (h : DataW.trod enc P W 0 (fun _ => true) true fuel t cs = some x) :
    ∃ n, ∀ (i off ft c : Nat), (fs[i]?).map (fun f => (f.offset, f.type)) = some (off, ft) → P.cellsOf ft = c → ∃ y, DataW.trod enc P W 0 (fun _ => true) true n ft ((cs.drop off).take c) = some y := by
  obtain ⟨xs, n, _, _, hl, hlen, hf⟩ := DataW.trod_struct hu h
  refine ⟨n, fun i off ft c hi hc => ?_⟩
  obtain ⟨f, hfi, he⟩ := Option.map_eq_some_iff.1 hi
  simp only [Prod.mk.injEq] at he
  obtain ⟨rfl, rfl⟩ := he
  have h1 := hf i f hfi
  rw [hc] at h1
  have h3 : i < xs.length := by rw [hlen]; exact (Array.getElem?_eq_some_iff.1 hfi).1
  exact ⟨xs[i], by rw [h1]; simp [h3]⟩
theorem cellsI64 : (Try.prog).cellsOf 2 = 1 := by kernel_rfl
theorem cellsInt : (Try.prog).cellsOf 3 = 1 := by kernel_rfl
theorem cellsMark : (Try.prog).cellsOf 23 = 4 := by kernel_rfl
theorem cellsMs : (Try.prog).cellsOf 34 = 8 := by kernel_rfl

theorem i64_wf {n : Int} (h : (Lit.int .i64 n).wf = true) : I64 n := by
  simp only [Lit.wf, Bool.and_eq_true, decide_eq_true_eq] at h
  rw [show IntKind.i64.min = -9223372036854775808 from rfl, show IntKind.i64.max = 9223372036854775807 from rfl] at h
  exact h

section
variable {H : Type} {enc : TypeId × Value → H} {W : World}
theorem read_mark {cs : List Value} {fuel : Nat} {x : DataW H × List MemPlace} (hl : cs.length = 4) (h : DataW.trod enc Try.prog W 0 (fun _ => true) true fuel 23 cs = some x) : ∃ a b c d : Int, cs = [.int .i64 a, .int .i64 b, .int .i64 c, .int .i64 d] ∧ I64 a ∧ I64 b ∧ I64 c ∧ I64 d := by
  obtain ⟨n, hf⟩ := read_field Try.underlying23 h
  obtain ⟨c0, y0, e0, h0⟩ := hf 0 0 2 rfl cellsI64 (by rw [cellsMark]; omega)
  obtain ⟨c1, y1, e1, h1⟩ := hf 1 1 3 rfl cellsInt (by rw [cellsMark]; omega)
  obtain ⟨c2, y2, e2, h2⟩ := hf 2 2 2 rfl cellsI64 (by rw [cellsMark]; omega)
  obtain ⟨c3, y3, e3, h3⟩ := hf 3 3 2 rfl cellsI64 (by rw [cellsMark]; omega)
  obtain ⟨a, rfl, w0⟩ := cell_int Try.underlying2 h0
  obtain ⟨b, rfl, w1⟩ := cell_int Try.underlying3 h1
  obtain ⟨c, rfl, w2⟩ := cell_int Try.underlying2 h2
  obtain ⟨d, rfl, w3⟩ := cell_int Try.underlying2 h3
  refine ⟨a, b, c, d, ?_, i64_wf w0, i64_wf w1, i64_wf w2, i64_wf w3⟩
  match cs, hl with
  | [p, q, r, s], _ =>
    simp at e0 e1 e2 e3
    subst e0 e1 e2 e3
    rfl
theorem read_ms {cs : List Value} {fuel : Nat} {x : DataW H × List MemPlace} (hl : cs.length = 8) (h : DataW.trod enc Try.prog W 0 (fun _ => true) true fuel 34 cs = some x) : ∃ m : Ms, cs = m.cs ∧ m.In := by
  obtain ⟨n, hf⟩ := read_field Try.underlying34 h
  obtain ⟨n', hg⟩ := read_fieldW Try.underlying34 h
  obtain ⟨c0, y0, e0, h0⟩ := hf 0 0 2 rfl cellsI64 (by rw [cellsMs]; omega)
  obtain ⟨c1, y1, e1, h1⟩ := hf 1 1 3 rfl cellsInt (by rw [cellsMs]; omega)
  obtain ⟨c2, y2, e2, h2⟩ := hf 2 2 3 rfl cellsInt (by rw [cellsMs]; omega)
  obtain ⟨c3, y3, e3, h3⟩ := hf 3 3 2 rfl cellsI64 (by rw [cellsMs]; omega)
  obtain ⟨y4, h4⟩ := hg 4 4 23 4 rfl cellsMark
  obtain ⟨a, rfl, w0⟩ := cell_int Try.underlying2 h0
  obtain ⟨b, rfl, w1⟩ := cell_int Try.underlying3 h1
  obtain ⟨c, rfl, w2⟩ := cell_int Try.underlying3 h2
  obtain ⟨d, rfl, w3⟩ := cell_int Try.underlying2 h3
  match cs, hl with
  | [p, q, r, s, t, u, v, w], _ =>
    obtain ⟨a', b', c', d', e4, w4, w5, w6, w7⟩ := read_mark (by rfl) h4
    simp at e0 e1 e2 e3 e4
    obtain ⟨rfl, rfl, rfl, rfl⟩ := e4
    subst e0 e1 e2 e3
    refine ⟨⟨a, b, c, d, a', b', c', d'⟩, rfl, ?_⟩
    intro x hx
    simp only [Ms.l, List.mem_cons, List.not_mem_nil, or_false] at hx
    rcases hx with rfl | rfl | rfl | rfl | rfl | rfl | rfl | rfl
    · exact i64_wf w0
    · exact i64_wf w1
    · exact i64_wf w2
    · exact i64_wf w3
    · exact w4
    · exact w5
    · exact w6
    · exact w7
set_option maxRecDepth 100000 in
theorem read_msv {base : Nat} {v : Value} {d : DataW H} {p : List MemPlace} (ho : Value.okWide Try.prog W .any base 34 v) (h : DataW.Trod enc Try.prog W 0 (fun _ => true) true 34 v d p) : ∃ m : Ms, v = .agg m.cs.toArray ∧ m.In := by
  obtain ⟨cs, rfl, hl⟩ := okWide_struct Try.underlying34 ho
  obtain ⟨fuel, hf⟩ := h
  rw [cellsMs] at hl
  obtain ⟨m, hc, hm⟩ := read_ms (cs := cs.toList) (by simpa using hl) (by simpa [Value.cells] using hf)
  exact ⟨m, by rw [← hc], hm⟩
set_option maxRecDepth 100000 in
theorem read_markv {base : Nat} {v : Value} {d : DataW H} {p : List MemPlace} (ho : Value.okWide Try.prog W .any base 23 v) (h : DataW.Trod enc Try.prog W 0 (fun _ => true) true 23 v d p) : ∃ a b c e : Int, v = .agg [.int .i64 a, .int .i64 b, .int .i64 c, .int .i64 e].toArray ∧ I64 a ∧ I64 b ∧ I64 c ∧ I64 e := by
  obtain ⟨cs, rfl, hl⟩ := okWide_struct Try.underlying23 ho
  obtain ⟨fuel, hf⟩ := h
  rw [cellsMark] at hl
  obtain ⟨a, b, c, e, hc, hm⟩ := read_mark (cs := cs.toList) (by simpa using hl) (by simpa [Value.cells] using hf)
  exact ⟨a, b, c, e, by rw [← hc], hm⟩
end

/-- a call that needs no memory -/
theorem call_of_spec0 {P : Program} {f : FuncId} {args : List Value} (W : World) (h : Spec P f args [] [] fun F v Rs' => v = .bool true ∧ Rs' = F) : Calls P f args.toArray W fun e W' => e = .returned (.bool true) ∧ Below W.heap.size W W' :=
  call_of_spec W fun w0 F w hw => (h w0 ((0, ro W) :: F) w hw).mono fun x w' ⟨v, Rs', h1, ⟨h2, h3⟩, h4⟩ => ⟨v, Rs', h1, ⟨h2, F, h3⟩, h4⟩
end Go.Gsl
