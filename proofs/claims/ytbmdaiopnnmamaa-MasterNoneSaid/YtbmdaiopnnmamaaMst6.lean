/- Masters compared. -/
import Derived.Test.YtbmdaiopnnmamaaMst5
import Derived.Test.YtbmdaiopnnmamaaGsl23
namespace Go.Gsl
set_option linter.unusedVariables false
open Go.Proofs

section
variable (w : World)
set_option maxRecDepth 20000 in
theorem eqMark (d : Nat) (a b c e a' b' c' e' : Int) : (Op.equalIn (d + 2) 23 (.agg #[.int .i64 a, .int .i64 b, .int .i64 c, .int .i64 e]) (.agg #[.int .i64 a', .int .i64 b', .int .i64 c', .int .i64 e'])).run Try.prog w = .ok (a == a' && (b == b' && (c == c' && (e == e' && true)))) w := by
  have hf := fieldsOf_und Try.underlying23
  rw [run_equalIn_struct w (d + 1) _ _ _ (by rw [hf]; exact Try.underlying23) (by kernel_rfl), hf]
  refine eqF_int w (by decide) Try.underlying2 rfl rfl ?_
  refine eqF_int w (by decide) Try.underlying3 rfl rfl ?_
  refine eqF_int w (by decide) Try.underlying2 rfl rfl ?_
  refine eqF_int w (by decide) Try.underlying2 rfl rfl ?_
  exact eqF_nil w _ _ _
def Ms.beq (x y : Ms) : Bool := x.seq == y.seq && (x.area == y.area && (x.chunks == y.chunks && (x.ts == y.ts && ((x.sector == y.sector && (x.offset == y.offset && (x.number == y.number && (x.run == y.run && true)))) && true))))
theorem Ms.beq_iff (x y : Ms) : x.beq y = true ↔ x = y := by
  cases x; cases y
  simp [Ms.beq]
set_option maxRecDepth 20000 in
theorem eqMs (d : Nat) (x y : Ms) : (Op.equalIn (d + 3) 34 (.agg x.cs.toArray) (.agg y.cs.toArray)).run Try.prog w = .ok (x.beq y) w := by
  have hf := fieldsOf_und Try.underlying34
  rw [show d + 3 = (d + 2) + 1 from rfl, run_equalIn_struct w (d + 2) _ _ _ (by rw [hf]; exact Try.underlying34) (by kernel_rfl), hf]
  refine eqF_int w (by decide) Try.underlying2 rfl rfl ?_
  refine eqF_int w (by decide) Try.underlying3 rfl rfl ?_
  refine eqF_int w (by decide) Try.underlying3 rfl rfl ?_
  refine eqF_int w (by decide) Try.underlying2 rfl rfl ?_
  have h1 : (part 23 x.cs.toArray 4).run Try.prog w = .ok (.agg #[.int .i64 x.sector, .int .i64 x.offset, .int .i64 x.number, .int .i64 x.run]) w := part_agg' w (by kernel_rfl)
  have h2 : (part 23 y.cs.toArray 4).run Try.prog w = .ok (.agg #[.int .i64 y.sector, .int .i64 y.offset, .int .i64 y.number, .int .i64 y.run]) w := part_agg' w (by kernel_rfl)
  exact eqF_step w (by decide) h1 h2 (eqMark w d _ _ _ _ _ _ _ _) (eqF_nil w _ _ _)
end
instance (x y : Ms) : EqAgg Try.prog 34 [.int .i64 x.seq, .int .i64 x.area, .int .i64 x.chunks, .int .i64 x.ts, .int .i64 x.sector, .int .i64 x.offset, .int .i64 x.number, .int .i64 x.run] [.int .i64 y.seq, .int .i64 y.area, .int .i64 y.chunks, .int .i64 y.ts, .int .i64 y.sector, .int .i64 y.offset, .int .i64 y.number, .int .i64 y.run] (x.beq y) := ⟨fun w => eqMs w 9997 x y, by kernel_rfl⟩
theorem eqMss (w : World) (d : Nat) (x x' y y' : Ms) : (Op.equalIn (d + 4) 49 (.agg (mrow x x').toArray) (.agg (mrow y y').toArray)).run Try.prog w = .ok (x.beq y && (x'.beq y' && true)) w := by
  obtain ⟨i, hi⟩ : ∃ i, (Try.prog).info? 34 = some i := info_of_underlying Try.underlying34
  rw [run_equalIn_array w (d + 3) _ _ Try.underlying49 hi]
  have hc : (Try.prog).cellsOf 34 = 8 := by kernel_rfl
  rw [hc]
  refine eqI_step w (part_agg' w (ys := x.cs.toArray) (by kernel_rfl)) (part_agg' w (ys := y.cs.toArray) (by kernel_rfl)) (eqMs w d x y) ?_
  refine eqI_step w (part_agg' w (ys := x'.cs.toArray) (by kernel_rfl)) (part_agg' w (ys := y'.cs.toArray) (by kernel_rfl)) (eqMs w d x' y') ?_
  exact eqI_nil w _ _ _ _ _
theorem eqErrs (w : World) (d : Nat) (x x' y y' : Int) : (Op.equalIn (d + 2) 50 (.agg (erow x x').toArray) (.agg (erow y y').toArray)).run Try.prog w = .ok (x == y && (x' == y' && true)) w := by
  obtain ⟨i, hi⟩ : ∃ i, (Try.prog).info? 25 = some i := info_of_underlying Try.underlying25
  rw [run_equalIn_array w (d + 1) _ _ Try.underlying50 hi]
  have hc : (Try.prog).cellsOf 25 = 1 := by kernel_rfl
  rw [hc]
  refine eqI_step w (part_one w rfl) (part_one w rfl) (run_equalIn_int w d _ _ _ _ _ Try.underlying25) ?_
  refine eqI_step w (part_one w rfl) (part_one w rfl) (run_equalIn_int w d _ _ _ _ _ Try.underlying25) ?_
  exact eqI_nil w _ _ _ _ _
instance (x x' y y' : Ms) : EqAgg Try.prog 49 (mrow x x') (mrow y y') (x.beq y && (x'.beq y' && true)) := ⟨fun w => eqMss w 9996 x x' y y', by kernel_rfl⟩
instance (x x' y y' : Int) : EqAgg Try.prog 50 [.int .i64 x, .int .i64 x'] [.int .i64 y, .int .i64 y'] (x == y && (x' == y' && true)) := ⟨fun w => eqErrs w 9998 x x' y y', by kernel_rfl⟩
end Go.Gsl
