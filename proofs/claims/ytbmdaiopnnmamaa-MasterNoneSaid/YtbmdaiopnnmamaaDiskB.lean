/- What calls do, all cases at once; begun. -/
import Derived.Test.YtbmdaiopnnmamaaDiskL
import Derived.Test.YtbmdaiopnnmamaaDisk9
namespace Go.Gsl
set_option linter.unusedVariables false
open Go.Proofs

theorem Dk.looks_ok {s : Dk} {a : Int} (h : s.down = false) (h0 : 0 ≤ a) (h1 : a < s.sure.length) : s.looks a = 0 := by
  unfold Dk.looks; rw [h]; simp; omega
theorem Dk.looks_zero {s : Dk} {a : Int} (h : s.looks a = 0) : s.down = false ∧ 0 ≤ a ∧ a < s.sure.length := by
  unfold Dk.looks at h
  split at h
  · cases h
  · split at h
    · cases h
    · rename_i h1 h2
      exact ⟨by simpa using h1, by omega, by omega⟩
theorem Dk.looks_bad {s : Dk} {a : Int} (h : s.down = false) (h1 : s.looks a ≠ 0) : s.looks a = 20 ∧ (a < 0 ∨ s.sure.length ≤ a) := by
  unfold Dk.looks at h1 ⊢
  rw [h] at h1 ⊢
  simp at h1 ⊢
  omega
theorem mergeS_len (g : Int → Option (List Int)) (ss : List (List Int)) : (mergeS g ss).length = ss.length := by unfold mergeS; rw [List.length_mapIdx]
theorem Dk.barred_len (s : Dk) : s.barred.sure.length = s.sure.length := mergeS_len _ _
theorem Dk.gone_len (s : Dk) (ks : List Int) (bs : List Bool) : (s.gone ks bs).sure.length = s.sure.length := goS_len _ _ _ _
theorem Dk.now_sure {s : Dk} {i : Int} (h : s.dirty i = none) : s.now i = (s.sure[i.toNat]?).getD [] := by unfold Dk.now; rw [h]; rfl

/-- the first elements of a row -/
theorem reads_row {b : Nat} {xs r : List Value} {t : TypeId} {fr : Nat × Nat} : Reads (pts b (.cells (xs ++ r).toArray t fr)) (some ⟨b, 0, none⟩) xs :=
  reads_pts fun j v hj => by rw [Nat.zero_add, List.getElem?_append_left (List.getElem?_eq_some_iff.1 hj).1]; exact hj
theorem reads_row0 {b : Nat} {xs : List Value} {t : TypeId} {fr : Nat × Nat} : Reads (pts b (.cells xs.toArray t fr)) (some ⟨b, 0, none⟩) xs :=
  reads_pts fun j v hj => by rw [Nat.zero_add]; exact hj

/-- the power back -/
def Dk.up (s : Dk) : Dk := { s with down := false }
theorem dRestart_up (p : Nat) (s : Dk) : Spec Try.prog 39 [.pointer (some ⟨p, 0, none⟩)] [p] [DISK p s] fun F v Rs' => v = .int .i64 0 ∧ Rs' = (p, DISK p s.up) :: F := dRestart_ok p s
theorem secOf_len (a b : Int) : (secOf a b).length = 512 := by unfold secOf; rw [List.length_cons, List.length_replicate]
/-- bytes.Equal of the same -/
theorem bEqual_same (k1 k2 : Nat) (r1 r2 : HProp) (a b : Option Addr) (m1 c1 m2 c2 : Nat) (xs : List Int) (h1 : Reads r1 a (xs.map (Value.int .u8))) (h2 : Reads r2 b (xs.map (Value.int .u8))) (l1 : xs.length = m1) (l2 : xs.length = m2)
    (b1 : ∀ x ∈ xs, 0 ≤ x ∧ x ≤ 255) : Spec Try.prog 15 [.slice a m1 c1, .slice b m2 c2] [k1, k2] [r1, r2] fun F v Rs' => v = .bool true ∧ Rs' = (k1, r1) :: (k2, r2) :: F :=
  (bEqual_ok k1 k2 r1 r2 a b m1 c1 m2 c2 xs xs h1 h2 l1 l2 b1 b1).mono fun F v Rs' h => by
    rw [decide_eq_true (rfl : xs = xs)] at h; exact h
theorem rdBools_nil (r : HProp) : RdBools r (.slice none 0 0) [] := ⟨none, 0, rfl, fun h => by simp at h, reads_nil _ _⟩

theorem reads_zeros {b n : Nat} {t : TypeId} {fr : Nat × Nat} : Reads (pts b (.cells (List.replicate n (Value.int .u8 0)).toArray t fr)) (some ⟨b, 0, none⟩) ((List.replicate n (0 : Int)).map (Value.int .u8)) := by
  rw [List.map_replicate]; exact reads_row0

/-- a write of a sector, whatever -/
theorem dWrite_any (p k : Nat) (s : Dk) (r : HProp) (ad : Option Addr) (c : Nat) (a : Int) (xs : List Int) (hx : SecWf xs) (hne : ad ≠ none) (hr : Reads r ad (xs.map (Value.int .u8))) : Spec Try.prog 67 [.pointer (some ⟨p, 0, none⟩), .int .i64 a, .slice ad 512 c] [p, k] [DISK p s, r]
    fun F v Rs' => (s.looks a ≠ 0 ∧ v = .int .i64 (s.looks a) ∧ Rs' = (p, DISK p s) :: (k, r) :: F) ∨
      (s.looks a = 0 ∧ s.fuse ≠ 1 ∧ v = .int .i64 0 ∧ Rs' = (p, DISK p (s.wrote a xs)) :: (k, r) :: F) ∨
      (s.looks a = 0 ∧ s.fuse = 1 ∧ v = .int .i64 6 ∧ ∃ ks, KeysD (s.wrote a xs).dirty ks ∧ Rs' = (p, DISK p ((s.wrote a xs).gone ks s.keep)) :: (k, r) :: F) := by
  by_cases h : s.looks a = 0
  · exact (dWrite_ok p k s r ad c a xs h hx hne hr).mono fun F v Rs' h2 => by
      rcases h2 with ⟨h3, h4, h5⟩ | ⟨h3, h4, h5⟩
      · exact .inr (.inl ⟨h, h3, h4, h5⟩)
      · exact .inr (.inr ⟨h, h3, h4, h5⟩)
  · exact (dWrite_bad p k s r _ a h).mono fun F v Rs' h2 => .inl ⟨h, h2⟩

theorem dWrite_f0 (p k : Nat) (s : Dk) (r : HProp) (ad : Option Addr) (c : Nat) (a : Int) (xs : List Int) (hx : SecWf xs) (hne : ad ≠ none) (hr : Reads r ad (xs.map (Value.int .u8))) (hf : s.fuse ≠ 1) : Spec Try.prog 67 [.pointer (some ⟨p, 0, none⟩), .int .i64 a, .slice ad 512 c] [p, k] [DISK p s, r]
    fun F v Rs' => (s.looks a ≠ 0 ∧ v = .int .i64 (s.looks a) ∧ Rs' = (p, DISK p s) :: (k, r) :: F) ∨
      (s.looks a = 0 ∧ v = .int .i64 0 ∧ Rs' = (p, DISK p (s.wrote a xs)) :: (k, r) :: F) :=
  (dWrite_any p k s r ad c a xs hx hne hr).mono fun F v Rs' h => by
    rcases h with h | ⟨h, _, h2⟩ | ⟨_, h, _⟩
    · exact .inl h
    · exact .inr ⟨h, h2⟩
    · exact absurd h hf

theorem Dk.now1_eq {s : Dk} {xs : List Int} (h : s.dirty = fun _ => none) {i : Nat} (h2 : s.sure[i]? = some xs) : s.now i = xs := by
  rw [Dk.now_sure (by rw [h]), Int.toNat_natCast, h2]; rfl

set_option maxRecDepth 20000 in
theorem begun_law (ks : List Int) : let s3 := (((Dk.new 2).wrote 0 (secOf 1 2)).barred).wrote 1 (secOf 3 4)
    ((s3.gone ks []).up.now 0 = secOf 1 2) ∧ ((s3.gone ks []).up.now 1 = List.replicate 512 0) := by
  intro s3
  have e : (s3.gone ks []).sure = [secOf 1 2, List.replicate 512 0] := by
    show goS _ ks [] _ = _
    rw [show ∀ g ss, goS g ks [] ss = ss by intro g ss; cases ks <;> rfl]
    show mergeS _ _ = _
    unfold mergeS
    show List.mapIdx _ [List.replicate 512 0, List.replicate 512 0] = _
    rfl
  constructor
  · exact Dk.now1_eq (i := 0) rfl (by show (s3.gone ks []).sure[0]? = _; rw [e]; rfl)
  · exact Dk.now1_eq (i := 1) rfl (by show (s3.gone ks []).sure[1]? = _; rw [e]; rfl)
end Go.Gsl
