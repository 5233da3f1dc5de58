/- Masters' sectors. -/
import Derived.Test.YtlofcljlmfnhbaaGR
namespace Go.Gsl
set_option linter.unusedVariables false
open Go.Proofs

theorem Ms.b_len (m : Ms) : m.b.length ≤ 72 := intsB_len m.l
theorem Ms.b_byt (m : Ms) : Byt m.b := intsB_byt _
/-- a master's sector -/
def Ms.sec (m : Ms) : List Int := frame m.b ++ List.replicate (512 - (frame m.b).length) 0
theorem Ms.frame_len (m : Ms) : (frame m.b).length = m.b.length + 5 := by
  have h1 := m.b_len
  have h2 : width (m.b.length : Int) = 1 := by unfold width; rw [if_neg (by omega), if_neg (by omega)]
  rw [Go.Gsl.frame_len, h2]
  omega
theorem Ms.sec_len (m : Ms) : m.sec.length = 512 := by
  have h1 := m.b_len
  have h2 := m.frame_len
  unfold Ms.sec
  rw [List.length_append, List.length_replicate]
  omega
theorem Ms.sec_byt (m : Ms) : Byt m.sec := (frame_byt m.b_byt).app fun x hx => by rw [List.eq_of_mem_replicate hx]; omega

/-- where a master stands -/
def Ms.place (at' : Int) (m : Ms) : Int := at' + m.seq % 2
end Go.Gsl

namespace Go.Gsl
set_option linter.unusedVariables false
open Go.Proofs

theorem reads_own {b : Nat} {cs r : List Value} {t : TypeId} {fr : Nat × Nat} : Reads (pts b (.cells (cs ++ r).toArray t fr)) (some ⟨b, 0, none⟩) cs := reads_pts fun j v hj => by rw [Nat.zero_add, List.getElem?_append_left (List.getElem?_eq_some_iff.1 hj).1]; exact hj
theorem iand_1 {a : Int} : iand .i64 a 1 = a % 2 := by
  unfold iand
  show IntKind.i64.wrap (((BitVec.ofInt 64 a &&& BitVec.ofInt 64 1).toNat : Nat) : Int) = _
  have h1 : (BitVec.ofInt 64 1).toNat = 1 := by decide
  have h2 : (BitVec.ofInt 64 a).toNat = (a % 18446744073709551616).toNat := by rw [BitVec.toNat_ofInt]; rfl
  rw [BitVec.toNat_and, h1, Nat.and_one_is_mod, h2, IntWalk.i64_in _ (by omega)]
  omega

def wr (x : Int) : Int := IntKind.i64.wrap x
/-- the master behind another one -/
def Ms.next (m : Ms) (chunks ts sector offset number run : Int) : Ms := ⟨wr (m.seq + 1), wr (1 - m.area), chunks, ts, sector, offset, number, run⟩
theorem unfr_ok {bs : List Int} (hb : Byt bs) (h : (unfr bs).1 = 0) : ∃ K N : Nat, (unfr bs).2.1 = (bs.drop K).take N ∧ (unfr bs).2.2 = (K + N + 4 : Nat) ∧ K + N + 4 ≤ bs.length := by
  have htk := takeInt_ok hb
  unfold unfr unfrK at h ⊢
  generalize takeInt bs = T at htk h ⊢
  rcases T with ⟨n, K, e⟩
  simp only at htk h ⊢
  by_cases he : e ≠ 0
  · rw [if_pos he] at h; exact absurd h he
  · rw [if_neg he] at h ⊢
    obtain ⟨h1, h2, h3, h4, h5⟩ := htk (by omega)
    by_cases g1 : n < 0
    · rw [if_pos g1] at h; cases h
    · rw [if_neg g1] at h ⊢
      by_cases g2 : 1048576 < n
      · rw [if_pos g2] at h; cases h
      · rw [if_neg g2] at h ⊢
        by_cases g3 : (bs.length : Int) - K.toNat - 4 < n
        · rw [if_pos g3] at h; cases h
        · rw [if_neg g3] at h ⊢
          split at h
          · cases h
          · rename_i g4
            rw [if_neg g4]
            exact ⟨K.toNat, n.toNat, rfl, by simp only; omega, by omega⟩

/-- the master of a sector, and what is wrong -/
def parseM (bs : List Int) : Ms × Int :=
  if bs.length ≠ 512 then (Ms.zero, 200) else if (unfr bs).1 ≠ 0 then (Ms.zero, 200) else if (takeM (unfr bs).2.1).2 ≠ 0 then (Ms.zero, 200)
  else if ∀ x ∈ bs.drop (unfr bs).2.2.toNat, x = 0 then ((takeM (unfr bs).2.1).1, 0) else (Ms.zero, 200)

end Go.Gsl
