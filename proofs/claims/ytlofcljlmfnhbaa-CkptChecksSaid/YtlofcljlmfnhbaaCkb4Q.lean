/- A disk and a writer that no call made. -/
import Derived.Test.YtlofcljlmfnhbaaCkb3Q
namespace Go.Gsl
set_option linter.unusedVariables false
open Go.Proofs

theorem dSectors_nil : Spec Try.prog 47 [.pointer none] [] [] fun F v Rs' => v = .int .i64 0 ∧ Rs' = F := by
  refine spec_of Try.func47 rfl Try.ntmps47 rfl ?_
  intro w0 F
  repeat' (first | with_reducible (first | refine go1 ?_ | refine sct ?_ | refine scf ?_ | refine sgr ?_) | ((with_reducible refine sw_call dNone_nil ?_); rintro _ _ ⟨rfl, rfl⟩) | (with_reducible refine sc_cond (fun h => ?_) (fun h => ?_)) <;> (try (exfalso; first | contradiction | omega | exact h Iff.rfl)) | (with_reducible refine sw_guard_split (fun h => ?_) (fun h => ?_)) <;> (try (exfalso; first | contradiction | omega | exact h Iff.rfl)) | (with_reducible refine sw_pick (fun h => ?_) (fun h => ?_)) <;> (try (exfalso; first | contradiction | omega | exact h Iff.rfl)) | fail)
  refine sq_ret1 Try.results47 ?_
  exact ⟨_, ⟨rfl, rfl⟩, Ent.refl _⟩
theorem ckOn_nil (f c : Int) : Spec Try.prog 29 [.pointer none, .agg [.int .i64 f, .int .i64 c].toArray] [] [] fun F w Rs' => w = .int .i64 2 ∧ Rs' = F := by
  refine spec_of Try.func29 rfl Try.ntmps29 rfl ?_
  intro w0 F
  repeat' (first | with_reducible (first | refine go1 ?_ | refine sct ?_ | refine scf ?_ | refine sgr ?_) | fail)
  refine sw_box fun b1 => ?_
  repeat' (first | with_reducible (first | refine go1 ?_ | refine sct ?_ | refine scf ?_ | refine sgr ?_) | ((with_reducible refine sw_call dSectors_nil ?_); rintro _ _ ⟨rfl, rfl⟩) | (with_reducible refine sc_cond (fun h => ?_) (fun h => ?_)) <;> (try (exfalso; first | contradiction | omega | exact h Iff.rfl)) | fail)
  refine sq_ret1 Try.results29 ?_
  exact ⟨_, ⟨rfl, rfl⟩, Ent.drop _ _⟩
theorem ckRead_nil (f c i : Int) : Spec Try.prog 9 [.pointer none, .agg [.int .i64 f, .int .i64 c].toArray, .int .i64 i] [] [] fun F w Rs' => w = .tuple #[.agg (ckV 0 (.slice none 0 0) false).toArray, .int .i64 2] ∧ Rs' = F := by
  refine spec_of Try.func9 rfl Try.ntmps9 rfl ?_
  intro w0 F
  repeat' (first | with_reducible (first | refine go1 ?_ | refine sct ?_ | refine scf ?_ | refine sgr ?_) | fail)
  refine sw_box fun b4 => ?_
  refine sw_alloc fun b6 => ?_
  repeat' (first | with_reducible (first | refine go1 ?_ | refine sct ?_ | refine scf ?_ | refine sgr ?_) | ((with_reducible refine sw_call (ckOn_nil f c) ?_); rintro _ _ ⟨rfl, rfl⟩) | (with_reducible refine sc_cond (fun h => ?_) (fun h => ?_)) <;> (try (exfalso; first | contradiction | omega | exact h Iff.rfl)) | fail)
  refine sw_build (ckV 0 (.slice none 0 0) false) (by kernel_rfl) ?_
  repeat' (first | with_reducible (first | refine go1 ?_ | refine sct ?_ | refine scf ?_ | refine sgr ?_) | fail)
  refine sw_store_agg ?_
  repeat' (first | with_reducible (first | refine go1 ?_ | refine sct ?_ | refine scf ?_ | refine sgr ?_) | fail)
  refine sq_resAT Try.results9 (by first | exact .inl rfl | exact .inr rfl) rfl ?_
  refine ⟨_, ⟨rfl, rfl⟩, ?_⟩
  repeat' (first | with_reducible exact Ent.refl _ | with_reducible refine Ent.take_eq ?_ ?_ | rfl | with_reducible refine Ent.oR ?_ | with_reducible refine Ent.trans (oR.drop _ _ _) ?_ | with_reducible refine Ent.trans (Ent.drop _ _) ?_)
theorem ckLoad_nil (f c k : Int) : Spec Try.prog 10 [.pointer none, .agg [.int .i64 f, .int .i64 c].toArray, .int .i64 k] [] [] fun F w Rs' => w = .tuple #[.slice none 0 0, .int .i64 2] ∧ Rs' = F := by
  refine spec_of Try.func10 rfl Try.ntmps10 rfl ?_
  intro w0 F
  repeat' (first | with_reducible (first | refine go1 ?_ | refine sct ?_ | refine scf ?_ | refine sgr ?_) | fail)
  refine sw_box fun b4 => ?_
  repeat' (first | with_reducible (first | refine go1 ?_ | refine sct ?_ | refine scf ?_ | refine sgr ?_) | ((with_reducible refine sw_call (ckOn_nil f c) ?_); rintro _ _ ⟨rfl, rfl⟩) | (with_reducible refine sc_cond (fun h => ?_) (fun h => ?_)) <;> (try (exfalso; first | contradiction | omega | exact h Iff.rfl)) | fail)
  refine sq_ret2 Try.results10 ?_
  exact ⟨_, ⟨rfl, rfl⟩, Ent.drop _ _⟩
theorem ckNew_nil (f c : Int) : Spec Try.prog 11 [.pointer none, .agg [.int .i64 f, .int .i64 c].toArray] [] [] fun F w Rs' => w = .tuple #[.pointer none, .int .i64 2] ∧ Rs' = F := by
  refine spec_of Try.func11 rfl Try.ntmps11 rfl ?_
  intro w0 F
  repeat' (first | with_reducible (first | refine go1 ?_ | refine sct ?_ | refine scf ?_ | refine sgr ?_) | fail)
  refine sw_box fun b4 => ?_
  repeat' (first | with_reducible (first | refine go1 ?_ | refine sct ?_ | refine scf ?_ | refine sgr ?_) | ((with_reducible refine sw_call (ckOn_nil f c) ?_); rintro _ _ ⟨rfl, rfl⟩) | (with_reducible refine sc_cond (fun h => ?_) (fun h => ?_)) <;> (try (exfalso; first | contradiction | omega | exact h Iff.rfl)) | fail)
  refine sq_ret2 Try.results11 ?_
  exact ⟨_, ⟨rfl, rfl⟩, Ent.drop _ _⟩
theorem ckWrite_nil (f c : Int) : Spec Try.prog 12 [.pointer none, .agg [.int .i64 f, .int .i64 c].toArray, .agg (ckV 0 (.slice none 0 0) false).toArray] [] [] fun F w Rs' => w = .int .i64 2 ∧ Rs' = F := by
  refine spec_of Try.func12 rfl Try.ntmps12 rfl ?_
  intro w0 F
  repeat' (first | with_reducible (first | refine go1 ?_ | refine sct ?_ | refine scf ?_ | refine sgr ?_) | fail)
  refine sw_box fun b4 => ?_
  repeat' (first | with_reducible (first | refine go1 ?_ | refine sct ?_ | refine scf ?_ | refine sgr ?_) | fail)
  refine sw_box fun b5 => ?_
  repeat' (first | with_reducible (first | refine go1 ?_ | refine sct ?_ | refine scf ?_ | refine sgr ?_) | ((with_reducible refine sw_call (ckOn_nil f c) ?_); rintro _ _ ⟨rfl, rfl⟩) | (with_reducible refine sc_cond (fun h => ?_) (fun h => ?_)) <;> (try (exfalso; first | contradiction | omega | exact h Iff.rfl)) | fail)
  refine sq_ret1 Try.results12 ?_
  refine ⟨_, ⟨rfl, rfl⟩, ?_⟩
  repeat' (first | with_reducible exact Ent.refl _ | with_reducible refine Ent.take_eq ?_ ?_ | rfl | with_reducible refine Ent.oR ?_ | with_reducible refine Ent.trans (oR.drop _ _ _) ?_ | with_reducible refine Ent.trans (Ent.drop _ _) ?_)
/-- a writer that no call made -/
def ckZ : List Value := ckRow (.pointer none) 0 0 (.slice none 0 0) 0 false
theorem ckDone_nil : Spec Try.prog 13 [.pointer none] [] [] fun F v Rs' => v = .tuple #[.int .i64 0, .int .i64 2] ∧ Rs' = F := by
  refine spec_of Try.func13 rfl Try.ntmps13 rfl ?_
  intro w0 F
  repeat' (first | with_reducible (first | refine go1 ?_ | refine sct ?_ | refine scf ?_ | refine sgr ?_) | ((with_reducible refine sw_call ckNone_nil ?_); rintro _ _ ⟨rfl, rfl⟩) | (with_reducible refine sc_cond (fun h => ?_) (fun h => ?_)) <;> (try (exfalso; first | contradiction | omega | exact h Iff.rfl)) | fail)
  refine sq_ret2 Try.results13 ?_
  exact ⟨_, ⟨rfl, rfl⟩, Ent.refl _⟩
theorem ckPut_nil (v : Value) : Spec Try.prog 14 [.pointer none, v] [] [] fun F w Rs' => w = .int .i64 2 ∧ Rs' = F := by
  refine spec_of Try.func14 rfl Try.ntmps14 rfl ?_
  intro w0 F
  repeat' (first | with_reducible (first | refine go1 ?_ | refine sct ?_ | refine scf ?_ | refine sgr ?_) | ((with_reducible refine sw_call ckNone_nil ?_); rintro _ _ ⟨rfl, rfl⟩) | (with_reducible refine sc_cond (fun h => ?_) (fun h => ?_)) <;> (try (exfalso; first | contradiction | omega | exact h Iff.rfl)) | fail)
  refine sq_ret1 Try.results14 ?_
  exact ⟨_, ⟨rfl, rfl⟩, Ent.refl _⟩
theorem ckDone_zero (p : Nat) (f c : Int) (l : Value) (n : Int) (done : Bool) : Spec Try.prog 13 [.pointer (some ⟨p, 0, none⟩)] [p] [pts p (.cells (ckRow (.pointer none) f c l n done).toArray 39 (0, 0))] fun F v Rs' => v = .tuple #[.int .i64 0, .int .i64 2] ∧ Rs' = (p, pts p (.cells (ckRow (.pointer none) f c l n done).toArray 39 (0, 0))) :: F := by
  refine spec_of Try.func13 rfl Try.ntmps13 rfl ?_
  intro w0 F
  repeat' (first | with_reducible (first | refine go1 ?_ | refine sct ?_ | refine scf ?_ | refine sgr ?_) | ((with_reducible refine sw_call (ckNone_zero p f c l n done) ?_); rintro _ _ ⟨rfl, rfl⟩) | (with_reducible refine sc_cond (fun h => ?_) (fun h => ?_)) <;> (try (exfalso; first | contradiction | omega | exact h Iff.rfl)) | fail)
  refine sq_ret2 Try.results13 ?_
  exact ⟨_, ⟨rfl, rfl⟩, Ent.refl _⟩
theorem ckPut_zero (p : Nat) (f c : Int) (l : Value) (n : Int) (done : Bool) (v : Value) : Spec Try.prog 14 [.pointer (some ⟨p, 0, none⟩), v] [p] [pts p (.cells (ckRow (.pointer none) f c l n done).toArray 39 (0, 0))] fun F w Rs' => w = .int .i64 2 ∧ Rs' = (p, pts p (.cells (ckRow (.pointer none) f c l n done).toArray 39 (0, 0))) :: F := by
  refine spec_of Try.func14 rfl Try.ntmps14 rfl ?_
  intro w0 F
  repeat' (first | with_reducible (first | refine go1 ?_ | refine sct ?_ | refine scf ?_ | refine sgr ?_) | ((with_reducible refine sw_call (ckNone_zero p f c l n done) ?_); rintro _ _ ⟨rfl, rfl⟩) | (with_reducible refine sc_cond (fun h => ?_) (fun h => ?_)) <;> (try (exfalso; first | contradiction | omega | exact h Iff.rfl)) | fail)
  refine sq_ret1 Try.results14 ?_
  exact ⟨_, ⟨rfl, rfl⟩, Ent.refl _⟩


/-- pairs of which the first ones are spoilt -/
def spoil (y : List Int) (i : Nat) (l : List Sp) : List Sp := (l.take i).map (fun x => ⟨x.key, y, x.ts⟩) ++ l.drop i
theorem spoil_zero (y : List Int) (l : List Sp) : spoil y 0 l = l := by simp [spoil]
theorem spoil_set {y : List Int} {l : List Sp} {i : Nat} (h : i < l.length) (t : List Value) : (spC (spoil y i l) ++ t).set (0 + i * 3 + 1) (.string (strB y)) = spC (spoil y (i + 1) l) ++ t := by
  have h1 : spoil y i l = (l.take i).map (fun x => ⟨x.key, y, x.ts⟩) ++ l[i] :: l.drop (i + 1) := by unfold spoil; rw [List.drop_eq_getElem_cons h]
  have h2 : spoil y (i + 1) l = (l.take i).map (fun x => ⟨x.key, y, x.ts⟩) ++ ⟨l[i].key, y, l[i].ts⟩ :: l.drop (i + 1) := by
    unfold spoil
    rw [List.take_add_one, List.getElem?_eq_getElem h, Option.toList_some, List.map_append, List.append_assoc]
    rfl
  have hl : (spC ((l.take i).map (fun x => (⟨x.key, y, x.ts⟩ : Sp)))).length = i * 3 := by rw [spC_len, List.length_map, List.length_take]; omega
  rw [h1, h2, spC_app, spC_app, spC_cons, spC_cons, List.append_assoc, List.append_assoc, List.set_append_right _ _ (by omega), hl, show 0 + i * 3 + 1 - i * 3 = 1 by omega, List.append_assoc, List.append_assoc]
  rfl

set_option maxHeartbeats 4000000 in
theorem l19None_ok (k : Nat) (r : HProp) (v : Value) (l : List Sp) (f c : Int) (hv : RdS r v l) (hb : SpsB l) (hl : l.length ≤ 9223372036854775807) :
    Spec Try.prog 3 [.agg [.int .i64 f, .int .i64 c].toArray, v] [k] [r] fun F w Rs' => w = .bool true ∧ Rs' = (k, r) :: F := by
  refine spec_of Try.func3 rfl Try.ntmps3 rfl ?_
  intro w0 F
  have hv1 := hv.one
  repeat' (first | with_reducible (first | refine go1 ?_ | refine sct ?_ | refine scf ?_ | refine sgr ?_) | fail)
  refine sw_box fun b2 => ?_
  repeat' (first | with_reducible (first | refine go1 ?_ | refine sct ?_ | refine scf ?_ | refine sgr ?_) | ((with_reducible refine sw_call l19live_ok ?_); rintro _ _ ⟨rfl, rfl⟩) | (with_reducible refine sc_cond (fun h => ?_) (fun h => ?_)) <;> (try (exfalso; first | contradiction | omega | exact h Iff.rfl)) | (with_reducible refine sw_guard_split (fun h => ?_) (fun h => ?_)) <;> (try (exfalso; first | contradiction | omega | exact h Iff.rfl)) | (with_reducible refine sw_pick (fun h => ?_) (fun h => ?_)) <;> (try (exfalso; first | contradiction | omega | exact h Iff.rfl)) | fail)
  refine sw_call (ckRead_nil f c 0) ?_
  rintro _ _ ⟨rfl, rfl⟩
  repeat' (first | with_reducible (first | refine go1 ?_ | refine sct ?_ | refine scf ?_ | refine sgr ?_) | fail)
  refine sw_alloc fun b6 => ?_
  refine sw_store_agg ?_
  repeat' (first | with_reducible (first | refine go1 ?_ | refine sct ?_ | refine scf ?_ | refine sgr ?_) | fail)
  refine sw_call (ckLoad_nil f c 1) ?_
  rintro _ _ ⟨rfl, rfl⟩
  repeat' (first | with_reducible (first | refine go1 ?_ | refine sct ?_ | refine scf ?_ | refine sgr ?_) | fail)
  refine sw_call (ckNew_nil f c) ?_
  rintro _ _ ⟨rfl, rfl⟩
  repeat' (first | with_reducible (first | refine go1 ?_ | refine sct ?_ | refine scf ?_ | refine sgr ?_) | (with_reducible refine sc_cond (fun h => ?_) (fun h => ?_)) <;> (try (exfalso; first | contradiction | omega | exact h Iff.rfl)) | (with_reducible refine sw_guard_split (fun h => ?_) (fun h => ?_)) <;> (try (exfalso; first | contradiction | omega | exact h Iff.rfl)) | (with_reducible refine sw_pick (fun h => ?_) (fun h => ?_)) <;> (try (exfalso; first | contradiction | omega | exact h Iff.rfl)) | fail)
  refine sw_build (ckV 0 (.slice none 0 0) false) (by kernel_rfl) ?_
  repeat' (first | with_reducible (first | refine go1 ?_ | refine sct ?_ | refine scf ?_ | refine sgr ?_) | ((with_reducible refine sw_call (ckWrite_nil f c) ?_); rintro _ _ ⟨rfl, rfl⟩) | (with_reducible refine sc_cond (fun h => ?_) (fun h => ?_)) <;> (try (exfalso; first | contradiction | omega | exact h Iff.rfl)) | (with_reducible refine sw_guard_split (fun h => ?_) (fun h => ?_)) <;> (try (exfalso; first | contradiction | omega | exact h Iff.rfl)) | (with_reducible refine sw_pick (fun h => ?_) (fun h => ?_)) <;> (try (exfalso; first | contradiction | omega | exact h Iff.rfl)) | fail)
  refine sw_build (ckRow (.pointer none) 0 0 (.slice none 0 0) 0 false) (by kernel_rfl) ?_
  refine sw_box fun bz => ?_
  refine sw_buildSlice [.pointer none, .pointer (some ⟨bz, 0, none⟩)] (by omega) rfl fun b66 => ?_
  repeat' (first | with_reducible (first | refine go1 ?_ | refine sct ?_ | refine scf ?_ | refine sgr ?_) | fail)
  refine sc_loop (α := { i : Nat // i ≤ 2 }) (fun i => [(1, v), (66, .slice (some ⟨b66, 0, none⟩) 2 2), (67, .int .i64 2), (68, .int .i64 (i.1 : Int))])
    (fun _ => (b66, pts b66 (.cells [Value.pointer none, .pointer (some ⟨bz, 0, none⟩)].toArray 34 (0, 0))) :: (bz, pts bz (.cells (ckRow (.pointer none) 0 0 (.slice none 0 0) 0 false).toArray 39 (0, 0))) :: (k, r) :: F) (fun i => 2 - i.1) ⟨0, Nat.zero_le _⟩ ?_ ?_ ?_
  · repeat' (first | exact says_nil | refine says_cons rfl ?_ | refine says_cons (by simp) ?_)
  · repeat' (first | with_reducible exact Ent.refl _ | with_reducible refine Ent.take_eq ?_ ?_ | rfl | with_reducible refine Ent.oR ?_ | with_reducible refine Ent.trans (oR.drop _ _ _) ?_ | with_reducible refine Ent.trans (Ent.drop _ _) ?_)
  rintro ⟨i, hi⟩ e
  (try simp only at hi)
  simp only [List.cons_append, List.nil_append]
  rcases Nat.lt_or_ge i 2 with hlt | hge
  · rcases (show i = 0 ∨ i = 1 by omega) with rfl | rfl
    · rw [show ((0 : Nat) : Int) = 0 from rfl]
      repeat' (first | with_reducible refine sw_in (by omega) ?_ | with_reducible (first | refine go1 ?_ | refine sct ?_ | refine scf ?_ | refine sgr ?_) | (with_reducible refine sc_cond (fun h => ?_) (fun h => ?_)) <;> (try (exfalso; first | contradiction | omega | exact h Iff.rfl)) | fail)
      refine sw_idx 0 ⟨rfl, by omega⟩ ?_
      refine sw_loadAt (.pointer none) rfl ?_
      repeat' (first | with_reducible (first | refine go1 ?_ | refine sct ?_ | refine scf ?_ | refine sgr ?_) | with_reducible refine sw_guard_skip_u ?_ | ((with_reducible refine sw_call ckDone_nil ?_); rintro _ _ ⟨rfl, rfl⟩) | ((with_reducible refine sw_call (ckPut_nil v) ?_); rintro _ _ ⟨rfl, rfl⟩) | ((with_reducible refine sw_call ckWritten_nil ?_); rintro _ _ ⟨rfl, rfl⟩) | (with_reducible refine sc_cond (fun h => ?_) (fun h => ?_)) <;> (try (exfalso; first | contradiction | omega | exact h Iff.rfl)) | (with_reducible refine sw_guard_split (fun h => ?_) (fun h => ?_)) <;> (try (exfalso; first | contradiction | omega | exact h Iff.rfl)) | (with_reducible refine sw_pick (fun h => ?_) (fun h => ?_)) <;> (try (exfalso; first | contradiction | omega | exact h Iff.rfl)) | fail)
      repeat' (first | with_reducible refine sw_in (by omega) ?_ | with_reducible (first | refine go1 ?_ | refine sct ?_ | refine scf ?_ | refine sgr ?_) | fail)
      refine sq_round ⟨1, by omega⟩ ?_ ?_ ?_
      · show 2 - 1 < 2 - 0
        omega
      · repeat' (first | exact says_nil | refine says_cons rfl ?_ | refine says_cons (by simp) ?_)
      · repeat' (first | with_reducible exact Ent.refl _ | with_reducible refine Ent.take_eq ?_ ?_ | rfl | with_reducible refine Ent.oR ?_ | with_reducible refine Ent.trans (oR.drop _ _ _) ?_ | with_reducible refine Ent.trans (Ent.drop _ _) ?_)
    · rw [show ((1 : Nat) : Int) = 1 from rfl]
      repeat' (first | with_reducible refine sw_in (by omega) ?_ | with_reducible (first | refine go1 ?_ | refine sct ?_ | refine scf ?_ | refine sgr ?_) | (with_reducible refine sc_cond (fun h => ?_) (fun h => ?_)) <;> (try (exfalso; first | contradiction | omega | exact h Iff.rfl)) | fail)
      refine sw_idx 1 ⟨rfl, by omega⟩ ?_
      refine sw_loadAt (.pointer (some ⟨bz, 0, none⟩)) rfl ?_
      repeat' (first | with_reducible (first | refine go1 ?_ | refine sct ?_ | refine scf ?_ | refine sgr ?_) | with_reducible refine sw_guard_skip_u ?_ | ((with_reducible refine sw_call (ckDone_zero bz 0 0 (.slice none 0 0) 0 false) ?_); rintro _ _ ⟨rfl, rfl⟩) | ((with_reducible refine sw_call (ckPut_zero bz 0 0 (.slice none 0 0) 0 false v) ?_); rintro _ _ ⟨rfl, rfl⟩) | ((with_reducible refine sw_call (ckWritten_zero bz 0 0 (.slice none 0 0) 0 false) ?_); rintro _ _ ⟨rfl, rfl⟩) | (with_reducible refine sc_cond (fun h => ?_) (fun h => ?_)) <;> (try (exfalso; first | contradiction | omega | exact h Iff.rfl)) | (with_reducible refine sw_guard_split (fun h => ?_) (fun h => ?_)) <;> (try (exfalso; first | contradiction | omega | exact h Iff.rfl)) | (with_reducible refine sw_pick (fun h => ?_) (fun h => ?_)) <;> (try (exfalso; first | contradiction | omega | exact h Iff.rfl)) | fail)
      repeat' (first | with_reducible refine sw_in (by omega) ?_ | with_reducible (first | refine go1 ?_ | refine sct ?_ | refine scf ?_ | refine sgr ?_) | fail)
      refine sq_round ⟨2, by omega⟩ ?_ ?_ ?_
      · show 2 - 2 < 2 - 1
        omega
      · repeat' (first | exact says_nil | refine says_cons rfl ?_ | refine says_cons (by simp) ?_)
      · repeat' (first | with_reducible exact Ent.refl _ | with_reducible refine Ent.take_eq ?_ ?_ | rfl | with_reducible refine Ent.oR ?_ | with_reducible refine Ent.trans (oR.drop _ _ _) ?_ | with_reducible refine Ent.trans (Ent.drop _ _) ?_)
  have h2 : i = 2 := by omega
  subst h2
  rw [show ((2 : Nat) : Int) = 2 from rfl]
  repeat' (first | with_reducible refine sw_in (by omega) ?_ | with_reducible (first | refine go1 ?_ | refine sct ?_ | refine scf ?_ | refine sgr ?_) | ((with_reducible refine sw_call dNew_60 ?_); rintro _ _ ⟨p, rfl, rfl⟩) | (with_reducible refine sc_cond (fun h => ?_) (fun h => ?_)) <;> (try (exfalso; first | contradiction | omega | exact h Iff.rfl)) | fail)
  refine DISK.scwf' (p := p) (s := Dk.new 60) fun hwf => ?_
  refine sw_call (l19rising_own 7110 k r v l 16 hv hb hl (by omega)) ?_
  rintro v1 _ ⟨hT, rfl⟩
  have hro := riseL_ok 16 l
  have hrb : SpsB (riseL 16 l) := fun x hx => hb x (riseL_mem hx)
  generalize riseL 16 l = L at *
  have hv2 := hT.one
  repeat' (first | with_reducible (first | refine go1 ?_ | refine sct ?_ | refine scf ?_ | refine sgr ?_) | fail)
  have hI0 : I64 0 := by unfold I64; omega
  have hI1 : I64 1 := by unfold I64; omega
  have h60 : (Dk.new 60).sure.length = 60 := List.length_replicate
  have ha : areaE 0 1 (60 : Nat) = 0 := areaE_60 (by omega) (by omega) (by omega)
  have hnk : (nCk L : Int) ≤ 1 := by unfold nCk; have := hro.2; omega
  refine sw_call (clS_ok 7110 _ v1 L hT.rds (by have := hro.2; omega)) ?_
  rintro _ _ ⟨qm, hqm, rfl, rfl⟩
  repeat' (first | with_reducible (first | refine go1 ?_ | refine sct ?_ | refine scf ?_ | refine sgr ?_) | fail)
  refine sw_build [.int .i64 0, .int .i64 1] (by kernel_rfl) ?_
  repeat' (first | with_reducible (first | refine go1 ?_ | refine sct ?_ | refine scf ?_ | refine sgr ?_) | fail)
  refine sw_call (ckNew_wr p (Dk.new 60) hwf 0 1 hI0 hI1 (by rw [h60]; exact ha)) ?_
  rintro _ _ ⟨w, rfl, rfl⟩
  refine sw_ent (Rs'' := (w, WR w p 0 1 (wRest []) (wN []) false) :: (p, DISK p (Dk.new 60)) :: (7110, SPO L v1) :: oR (SpG L) ((k, r) :: F) qm) ?_ ?_
  · repeat' (first | with_reducible exact Ent.refl _ | with_reducible refine Ent.take_eq ?_ ?_ | rfl | with_reducible refine Ent.oR ?_ | with_reducible refine Ent.trans (oR.drop _ _ _) ?_ | with_reducible refine Ent.trans (Ent.drop _ _) ?_)
  cases qm with
  | none =>
    have hL0 : L = [] := List.length_eq_zero_iff.1 (hqm.2.1 rfl).2
    rw [nG_none, show nV L.length none = .slice none 0 0 from rfl]
    have hput := ckPut_up w p 7110 (Dk.new 60) (SPO L v1) 0 1 [] L (.slice none 0 0) 60 (Dk.new 60).now hI0 hI1 (by rw [hL0]; exact RdS.nil _) (by rw [List.nil_append]; exact hro.1) (by rw [List.nil_append]; exact hrb) (by rw [List.nil_append]; exact hnk) ha (WSt.new 0 1)
    rw [List.nil_append] at hput
    repeat' (first | with_reducible (first | refine go1 ?_ | refine sct ?_ | refine scf ?_ | refine sgr ?_) | ((with_reducible refine sw_call hput ?_); rintro _ _ ⟨s1, hs1, rfl, rfl⟩) | (with_reducible refine sc_cond (fun h => ?_) (fun h => ?_)) <;> (try (exfalso; first | contradiction | omega | exact h Iff.rfl)) | (with_reducible refine sw_guard_split (fun h => ?_) (fun h => ?_)) <;> (try (exfalso; first | contradiction | omega | exact h Iff.rfl)) | (with_reducible refine sw_pick (fun h => ?_) (fun h => ?_)) <;> (try (exfalso; first | contradiction | omega | exact h Iff.rfl)) | fail)
    refine sc_loop (α := Unit) (fun _ => [(16, .pointer (some ⟨p, 0, none⟩)), (17, v1), (19, .pointer (some ⟨w, 0, none⟩)), (120, .int .i64 ((0 : Nat) : Int)), (121, .int .i64 0)])
      (fun _ => (w, WR w p 0 1 (wRest L) (wN L) false) :: (p, DISK p s1) :: (7110, SPO L v1) :: (k, r) :: F) (fun _ => 0) () ?_ ?_ ?_
    · repeat' (first | exact says_nil | refine says_cons rfl ?_ | refine says_cons (by simp) ?_)
    · repeat' (first | with_reducible exact Ent.refl _ | with_reducible refine Ent.take_eq ?_ ?_ | rfl | with_reducible refine Ent.oR ?_ | with_reducible refine Ent.trans (oR.drop _ _ _) ?_ | with_reducible refine Ent.trans (Ent.drop _ _) ?_)
    rintro ⟨⟩ e
    simp only [List.cons_append, List.nil_append]
    repeat' (first | with_reducible (first | refine go1 ?_ | refine sct ?_ | refine scf ?_ | refine sgr ?_) | (with_reducible refine sc_cond (fun h => ?_) (fun h => ?_)) <;> (try (exfalso; first | contradiction | omega | exact h Iff.rfl)) | fail)
    have hdone := ckDone_up w p s1 0 1 L 60 (Dk.new 60).now hI0 hI1 hro.1 hrb hnk ha hs1
    refine sw_call hdone ?_
    rintro _ _ ⟨s2, hs2, rfl, rfl⟩
    repeat' (first | with_reducible (first | refine go1 ?_ | refine sct ?_ | refine scf ?_ | refine sgr ?_) | fail)
    refine sw_build [.int .i64 0, .int .i64 1] (by kernel_rfl) ?_
    repeat' (first | with_reducible (first | refine go1 ?_ | refine sct ?_ | refine scf ?_ | refine sgr ?_) | fail)
    have hload := ckLoad_own 7112 p s2 0 1 L (nCk L : Int) hI0 hI1 rfl (by unfold I64; omega) (loadA_of (N := 60) (g := (Dk.new 60).now) hro.1 hrb hnk hs2.len ha hs2.up.1 fun j h0 h1 => hs2.now j (by omega) (by omega))
    refine sw_call hload ?_
    rintro _ _ ⟨gv, hgv, rfl, rfl⟩
    have hgv1 := hgv.one
    have hsame := r3SamePairs_same 7112 7110 (SPO L gv) (SPO L v1) gv v1 L hgv.rds hT.rds hrb (by have := hro.2; omega)
    repeat' (first | with_reducible (first | refine go1 ?_ | refine sct ?_ | refine scf ?_ | refine sgr ?_) | ((with_reducible refine sw_call hsame ?_); rintro _ _ ⟨rfl, rfl⟩) | (with_reducible refine sc_cond (fun h => ?_) (fun h => ?_)) <;> (try (exfalso; first | contradiction | omega | exact h Iff.rfl)) | (with_reducible refine sw_guard_split (fun h => ?_) (fun h => ?_)) <;> (try (exfalso; first | contradiction | omega | exact h Iff.rfl)) | (with_reducible refine sw_pick (fun h => ?_) (fun h => ?_)) <;> (try (exfalso; first | contradiction | omega | exact h Iff.rfl)) | fail)
    refine sq_ret1 Try.results3 ?_
    refine ⟨_, ⟨rfl, rfl⟩, ?_⟩
    repeat' (first | with_reducible exact Ent.refl _ | with_reducible refine Ent.take_eq ?_ ?_ | rfl | with_reducible refine Ent.oR ?_ | with_reducible refine Ent.trans (oR.drop _ _ _) ?_ | with_reducible refine Ent.trans (Ent.drop _ _) ?_)
  | some y =>
    obtain ⟨bm, cm, tm⟩ := y
    have hcap := (hqm.2.2 bm cm tm rfl).1
    rw [nG_some, show nV L.length (some (bm, cm, tm)) = .slice (some ⟨bm, 0, none⟩) L.length cm from rfl]
    have hput := ckPut_up w p bm (Dk.new 60) (pts bm (.cells (spC L ++ tm).toArray 50 (0, 0))) 0 1 [] L (.slice (some ⟨bm, 0, none⟩) L.length cm) 60 (Dk.new 60).now hI0 hI1 (RdS.own hcap) (by rw [List.nil_append]; exact hro.1) (by rw [List.nil_append]; exact hrb) (by rw [List.nil_append]; exact hnk) ha (WSt.new 0 1)
    rw [List.nil_append] at hput
    repeat' (first | with_reducible (first | refine go1 ?_ | refine sct ?_ | refine scf ?_ | refine sgr ?_) | ((with_reducible refine sw_call hput ?_); rintro _ _ ⟨s1, hs1, rfl, rfl⟩) | (with_reducible refine sc_cond (fun h => ?_) (fun h => ?_)) <;> (try (exfalso; first | contradiction | omega | exact h Iff.rfl)) | (with_reducible refine sw_guard_split (fun h => ?_) (fun h => ?_)) <;> (try (exfalso; first | contradiction | omega | exact h Iff.rfl)) | (with_reducible refine sw_pick (fun h => ?_) (fun h => ?_)) <;> (try (exfalso; first | contradiction | omega | exact h Iff.rfl)) | fail)
    refine sc_loop (α := { i : Nat // i ≤ L.length }) (fun i => [(16, .pointer (some ⟨p, 0, none⟩)), (17, v1), (18, .slice (some ⟨bm, 0, none⟩) L.length cm), (19, .pointer (some ⟨w, 0, none⟩)), (120, .int .i64 (L.length : Int)), (121, .int .i64 (i.1 : Int))])
      (fun i => (bm, pts bm (.cells (spC (spoil [115, 112, 111, 105, 108, 116] i.1 L) ++ tm).toArray 50 (0, 0))) :: (w, WR w p 0 1 (wRest L) (wN L) false) :: (p, DISK p s1) :: (7110, SPO L v1) :: (k, r) :: F) (fun i => L.length - i.1) ⟨0, Nat.zero_le _⟩ ?_ ?_ ?_
    · repeat' (first | exact says_nil | refine says_cons rfl ?_ | refine says_cons (by simp) ?_)
    · dsimp only
      rw [spoil_zero]
      repeat' (first | with_reducible exact Ent.refl _ | with_reducible refine Ent.take_eq ?_ ?_ | rfl | with_reducible refine Ent.oR ?_ | with_reducible refine Ent.trans (oR.drop _ _ _) ?_ | with_reducible refine Ent.trans (Ent.drop _ _) ?_)
    rintro ⟨i, hi⟩ e
    (try simp only at hi)
    simp only [List.cons_append, List.nil_append]
    repeat' (first | with_reducible refine sw_in (by omega) ?_ | with_reducible (first | refine go1 ?_ | refine sct ?_ | refine scf ?_ | refine sgr ?_) | (with_reducible refine sc_cond (fun h => ?_) (fun h => ?_)) <;> (try (exfalso; first | contradiction | omega | exact h Iff.rfl)) | fail)
    · have hi2 : i < L.length := by omega
      refine sw_indexN i ⟨rfl, hi2⟩ ?_
      repeat' (first | with_reducible (first | refine go1 ?_ | refine sct ?_ | refine scf ?_ | refine sgr ?_) | fail)
      have hlen : (spC (spoil [115, 112, 111, 105, 108, 116] i L)).length = L.length * 3 := by
        rw [spC_len]
        unfold spoil
        rw [List.length_append, List.length_map, List.length_take, List.length_drop]
        congr 1
        omega
      refine sw_storeAt (by rw [List.length_append, hlen]; omega) ?_
      rw [show (Value.string { data := #[115, 112, 111, 105, 108, 116] }) = .string (strB [115, 112, 111, 105, 108, 116]) from by kernel_rfl, spoil_set hi2]
      repeat' (first | with_reducible refine sw_in (by omega) ?_ | with_reducible (first | refine go1 ?_ | refine sct ?_ | refine scf ?_ | refine sgr ?_) | fail)
      refine sq_round ⟨i + 1, by omega⟩ ?_ ?_ ?_
      · show L.length - (i + 1) < L.length - i
        omega
      · repeat' (first | exact says_nil | refine says_cons rfl ?_ | refine says_cons (by simp) ?_)
      · repeat' (first | with_reducible exact Ent.refl _ | with_reducible refine Ent.take_eq ?_ ?_ | rfl | with_reducible refine Ent.oR ?_ | with_reducible refine Ent.trans (oR.drop _ _ _) ?_ | with_reducible refine Ent.trans (Ent.drop _ _) ?_)
    · repeat' (first | with_reducible (first | refine go1 ?_ | refine sct ?_ | refine scf ?_ | refine sgr ?_) | fail)
      have hdone := ckDone_up w p s1 0 1 L 60 (Dk.new 60).now hI0 hI1 hro.1 hrb hnk ha hs1
      refine sw_call hdone ?_
      rintro _ _ ⟨s2, hs2, rfl, rfl⟩
      repeat' (first | with_reducible (first | refine go1 ?_ | refine sct ?_ | refine scf ?_ | refine sgr ?_) | fail)
      refine sw_build [.int .i64 0, .int .i64 1] (by kernel_rfl) ?_
      repeat' (first | with_reducible (first | refine go1 ?_ | refine sct ?_ | refine scf ?_ | refine sgr ?_) | fail)
      have hload := ckLoad_own 7112 p s2 0 1 L (nCk L : Int) hI0 hI1 rfl (by unfold I64; omega) (loadA_of (N := 60) (g := (Dk.new 60).now) hro.1 hrb hnk hs2.len ha hs2.up.1 fun j h0 h1 => hs2.now j (by omega) (by omega))
      refine sw_call hload ?_
      rintro _ _ ⟨gv, hgv, rfl, rfl⟩
      have hgv1 := hgv.one
      have hsame := r3SamePairs_same 7112 7110 (SPO L gv) (SPO L v1) gv v1 L hgv.rds hT.rds hrb (by have := hro.2; omega)
      repeat' (first | with_reducible (first | refine go1 ?_ | refine sct ?_ | refine scf ?_ | refine sgr ?_) | ((with_reducible refine sw_call hsame ?_); rintro _ _ ⟨rfl, rfl⟩) | (with_reducible refine sc_cond (fun h => ?_) (fun h => ?_)) <;> (try (exfalso; first | contradiction | omega | exact h Iff.rfl)) | (with_reducible refine sw_guard_split (fun h => ?_) (fun h => ?_)) <;> (try (exfalso; first | contradiction | omega | exact h Iff.rfl)) | (with_reducible refine sw_pick (fun h => ?_) (fun h => ?_)) <;> (try (exfalso; first | contradiction | omega | exact h Iff.rfl)) | fail)
      refine sq_ret1 Try.results3 ?_
      refine ⟨_, ⟨rfl, rfl⟩, ?_⟩
      repeat' (first | with_reducible exact Ent.refl _ | with_reducible refine Ent.take_eq ?_ ?_ | rfl | with_reducible refine Ent.oR ?_ | with_reducible refine Ent.trans (oR.drop _ _ _) ?_ | with_reducible refine Ent.trans (Ent.drop _ _) ?_)
end Go.Gsl
