/- Masters: what they may be, their bytes. -/
import Derived.Test.YtlofcljlmfnhbaaGC
import Derived.Test.YtlofcljlmfnhbaaGE
namespace Go.Gsl
set_option linter.unusedVariables false
open Go.Proofs

/-- a master -/
structure Ms where
  seq : Int
  area : Int
  chunks : Int
  ts : Int
  sector : Int
  offset : Int
  number : Int
  run : Int
def Ms.l (m : Ms) : List Int := [m.seq, m.area, m.chunks, m.ts, m.sector, m.offset, m.number, m.run]
abbrev Ms.cs (m : Ms) : List Value := [.int .i64 m.seq, .int .i64 m.area, .int .i64 m.chunks, .int .i64 m.ts, .int .i64 m.sector, .int .i64 m.offset, .int .i64 m.number, .int .i64 m.run]
def Ms.zero : Ms := ⟨0, 0, 0, 0, 0, 0, 0, 0⟩
def Ms.In (m : Ms) : Prop := ∀ x ∈ m.l, I64 x
def Ms.Ok (m : Ms) : Prop := Stamp m.seq 1 ∧ (m.area = 0 ∨ m.area = 1) ∧ (1 ≤ m.chunks ∧ m.chunks ≤ 4096) ∧ Stamp m.ts 0 ∧ Stamp m.sector 0 ∧ (0 ≤ m.offset ∧ m.offset < 512) ∧ Stamp m.number 0 ∧ Stamp m.run 0
instance (m : Ms) : Decidable m.Ok := inferInstanceAs (Decidable (_ ∧ _))
def Ms.chk (m : Ms) : Int := if m.Ok then 0 else 32

/-- a list's ints, one behind the other -/
def intsB (l : List Int) : List Int := l.flatMap intB
theorem intsB_byt (l : List Int) : Byt (intsB l) := fun x hx => by
  obtain ⟨y, _, hy⟩ := List.mem_flatMap.1 hx
  exact intB_byt y x hy
theorem intsB_len (l : List Int) : (intsB l).length ≤ 9 * l.length := by
  induction l with
  | nil => simp [intsB]
  | cons a l ih =>
    have h1 := intB_len a
    have h2 := width_in a
    have h3 : intsB (a :: l) = intB a ++ intsB l := rfl
    rw [h3, List.length_append, List.length_cons]
    omega
theorem intsB_snoc (l : List Int) (a : Int) : intsB (l ++ [a]) = intsB l ++ intB a := by unfold intsB; simp

def Ms.b (m : Ms) : List Int := intsB m.l

end Go.Gsl

namespace Go.Gsl
set_option linter.unusedVariables false
open Go.Proofs

end Go.Gsl

namespace Go.Gsl
set_option linter.unusedVariables false
open Go.Proofs

end Go.Gsl

namespace Go.Gsl
set_option linter.unusedVariables false
open Go.Proofs

/-- a reader's ints, one behind the other -/
def nth (bs : List Int) : Nat → Int × Nat × Int
  | 0 => num bs (0, 0)
  | k + 1 => num bs (nth bs k).2
theorem nth_ok {bs : List Int} (hb : Byt bs) : ∀ k, (nth bs k).2.1 ≤ bs.length ∧ I64 (nth bs k).1
  | 0 => num_ok hb (Nat.zero_le _)
  | k + 1 => num_ok hb (nth_ok hb k).1
def takeMs (bs : List Int) : Ms := ⟨(nth bs 0).1, (nth bs 1).1, (nth bs 2).1, (nth bs 3).1, (nth bs 4).1, (nth bs 5).1, (nth bs 6).1, (nth bs 7).1⟩
def takeEr (bs : List Int) : Int := endE bs.length (takeMs bs).chk (nth bs 7).2
/-- the master of bytes, and what is wrong -/
def takeM (bs : List Int) : Ms × Int := if takeEr bs ≠ 0 then (Ms.zero, takeEr bs) else (takeMs bs, 0)

end Go.Gsl
