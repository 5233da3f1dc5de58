/- Structs and arrays compared. -/
import Derived.Test.YtbmdaiopnnmamaaGsl22
import Derived.ChangeKeysEq
namespace Go.Gsl
set_option linter.unusedVariables false
section
variable {P : Program} (w : World)
theorem fieldsOf_und {t : TypeId} {fs : Array Field} (h : P.underlying t = some (.struct fs)) : P.fieldsOf t = fs := by simp [Program.fieldsOf, h]
theorem part_one {t : TypeId} [hn : NonAgg P t] {xs : Array Value} {o : Nat} {v : Value} (h : xs[o]? = some v) : (part t xs o).run P w = .ok v w := by
  simp [part, hn.out, h]
theorem part_agg {t : TypeId} {sz : Nat} [hn : IsAggT P t] [hs : SizeOf P t sz] {xs : Array Value} {o : Nat} : (part t xs o).run P w = .ok (.agg (xs.extract o (o + sz))) w := by
  simp [part, hn.out, hs.out]
theorem part_agg' {t : TypeId} {sz : Nat} [hn : IsAggT P t] [hs : SizeOf P t sz] {xs ys : Array Value} {o : Nat} (h : xs.extract o (o + sz) = ys) : (part t xs o).run P w = .ok (.agg ys) w := by rw [part_agg, h]
theorem eqF_nil (d : Nat) (xs ys : Array Value) : (Op.eqFields d xs ys []).run P w = .ok true w := by simp [Op.eqFields]
theorem eqF_step {d : Nat} {xs ys : Array Value} {f : Field} {fs : List Field} {a b : Value} {r r' : Bool} (hnm : f.name ≠ "_") (hx : (part f.type xs f.offset).run P w = .ok a w) (hy : (part f.type ys f.offset).run P w = .ok b w) (he : (Op.equalIn d f.type a b).run P w = .ok r w)
    (hr : (Op.eqFields d xs ys fs).run P w = .ok r' w) : (Op.eqFields d xs ys (f :: fs)).run P w = .ok (r && r') w := by
  simp only [Op.eqFields, Sem.run_ite, if_pos hnm, Sem.run_bind, hx, hy, he, Result.andThen_ok]
  cases r <;> simp [hr]
theorem eqF_int {d : Nat} {xs ys : Array Value} {f : Field} {fs : List Field} {k k' : IntKind} {a b : Int} {r' : Bool} (hnm : f.name ≠ "_") [hn : NonAgg P f.type] (hu : P.underlying f.type = some (.int k')) (hx : xs[f.offset]? = some (.int k a)) (hy : ys[f.offset]? = some (.int k b))
    (hr : (Op.eqFields (d + 1) xs ys fs).run P w = .ok r' w) : (Op.eqFields (d + 1) xs ys (f :: fs)).run P w = .ok (a == b && r') w :=
  eqF_step w hnm (part_one w hx) (part_one w hy) (run_equalIn_int w d _ _ _ _ _ hu) hr
theorem eqI_nil (d : Nat) (e : TypeId) (c : Nat) (xs ys : Array Value) : (Op.eqItems d e c xs ys []).run P w = .ok true w := by simp [Op.eqItems]
theorem eqI_step {d : Nat} {e : TypeId} {c : Nat} {xs ys : Array Value} {i : Nat} {is : List Nat} {a b : Value} {r r' : Bool} (hx : (part e xs (i * c)).run P w = .ok a w) (hy : (part e ys (i * c)).run P w = .ok b w) (he : (Op.equalIn d e a b).run P w = .ok r w)
    (hr : (Op.eqItems d e c xs ys is).run P w = .ok r' w) : (Op.eqItems d e c xs ys (i :: is)).run P w = .ok (r && r') w := by
  simp only [Op.eqItems, Sem.run_bind, hx, hy, he, Result.andThen_ok]
  cases r <;> simp [hr]
end
section
variable {P : Program} {n : Nat} {e : Env} {ty t t' : TypeId} {x y : Operand}
/-- whole structs compared -/
class EqAgg (P : Program) (t : TypeId) (xs ys : List Value) (r : outParam Bool) : Prop where
  out : (∀ w, (Op.equalIn 10000 t (.agg xs.toArray) (.agg ys.toArray)).run P w = .ok r w) ∧ P.eqGuardType P.depth t = false
instance PureOp.aggEq (xs ys : List Value) (r : Bool) [hx : Ev n e x (.agg xs.toArray)] [hy : Ev n e y (.agg ys.toArray)] [h : EqAgg P t xs ys r] : PureOp P n e (.binOp .eql t x y t') ty (.bool r) :=
  ⟨fun o h1 _ w => run_eq_of h1 w (run_eqGuard_agg w _ _ _ _ _ _ h.out.2) (by rw [run_eql_struct, h.out.1, Result.andThen_ok])⟩
instance PureOp.aggNe (xs ys : List Value) (r : Bool) [hx : Ev n e x (.agg xs.toArray)] [hy : Ev n e y (.agg ys.toArray)] [h : EqAgg P t xs ys r] : PureOp P n e (.binOp .neq t x y t') ty (.bool (!r)) :=
  ⟨fun o h1 _ w => run_ne_of h1 w (run_eqGuard_agg w _ _ _ _ _ _ h.out.2) (by rw [run_neq_struct, h.out.1, Result.andThen_ok])⟩
end
end Go.Gsl
