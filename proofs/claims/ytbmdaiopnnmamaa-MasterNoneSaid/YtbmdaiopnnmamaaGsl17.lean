/- One cell of a row, in regions that draw their order; two effects of which either may come first; append to nil. -/
import Derived.Test.YtbmdaiopnnmamaaGsl16
import Derived.Test.YtbmdaiopnnmamaaGsl5
namespace Go.Gsl
set_option linter.unusedVariables false

/-- block b's cell i is v -/
def cellF (b i : Nat) (v : Value) : HProp := fun h => ∃ cs t fr f, h b = some (.cells cs t fr, f) ∧ cs[i]? = some v

section
variable {P : Program} {ops : List Oper} {Q : Cont} {n : Nat} {w0 : World} {e : Env} {Rs F : List Res} {ty : TypeId}
instance Sub.cell (b i : Nat) (v : Value) (l : List Value) (t : TypeId) (fr : Nat × Nat) (Rs F G : List Res) [h : Take Rs b (pts b (.cells l.toArray t fr)) F] [hc : TupAt l i v] [h2 : Sub F G] : Sub Rs ((b, cellF b i v) :: G) :=
  ⟨h.ent.trans (Ent.trans (Ent.head fun x hx => ⟨l.toArray, t, fr, false, hx.1, by simpa using hc.out⟩) (Ent.cons _ h2.ent))⟩
theorem runop_loadCell {t : TypeId} {x : Operand} {b i : Nat} (v : Value) [hx : Ev n e x (.pointer (some ⟨b, i, none⟩))] [hn : NonAgg P t] [tk : Take Rs b (cellF b i v) F] : RunOp P n w0 e Rs (.load t x) ty v :=
  runop_load (a := ⟨b, i, none⟩) fun w hw => by
    obtain ⟨_, h, hf, x, y, hd, hj, ⟨cs, t, fr, f, h1, h2⟩, _⟩ := hw.ent tk.ent
    have h3 : h b = some (.cells cs t fr, f) := by rw [hj]; simp [hjoin, h1]
    exact cell_of (hf b _ f h3) h2

variable {fuel : Nat} {listed : Array Bool} {G : List Res}
/-- 'i' or 'j' may come up. -/
theorem sg_two {oi oj : Oper} (i j : Nat) (hi : ops[i]? = some oi) (hj : ops[j]? = some oj) (hr : Region.ready .any ops.toArray listed = [i, j]) (hq : Q.r = none) [hG : Sub Rs G]
    (k1 : SW P ops (Q.draws P ops w0 G fuel (listed.setIfInBounds i true)) n w0 [oi] e Rs) (k2 : SW P ops (Q.draws P ops w0 G fuel (listed.setIfInBounds j true)) n w0 [oj] e Rs) : SG P ops Q n w0 G (fuel + 1) listed e Rs := by
  have one : ∀ {o : Oper} (i : Nat) (hi : ops[i]? = some o) (k : SW P ops (Q.draws P ops w0 G fuel (listed.setIfInBounds i true)) n w0 [o] e Rs) (w : World) (hw : Sat w0 w Rs),
      wpOpIn (fz none) 0 P ops.toArray Q.q i (wpAnyC P .any ops.toArray (fun w => Sat w0 w G) Q.q fuel (listed.setIfInBounds i true)) (actM Q.m n e) w := by
    intro o i hi k w hw
    have hi' : ops.toArray[i]? = some o := by simpa using hi
    have := k w hw
    unfold wpOpIn
    simp only [hi']
    have hq' : (Q.draws P ops w0 G fuel (listed.setIfInBounds i true)).r = none := hq
    rw [hq', show (Q.draws P ops w0 G fuel (listed.setIfInBounds i true)).m = Q.m from rfl] at this
    unfold wpListIn at this
    split
    · rename_i hw'
      rw [if_pos hw'] at this
      obtain ⟨h1, h⟩ := this
      refine ⟨h1, ?_⟩
      unfold Oper.uponIn at h ⊢
      exact h
    · rename_i hw'
      rw [if_neg hw'] at this
      exact this
  refine ⟨hq, fun w hw => ⟨hw.ent hG.ent, fun h => (by rw [h] at hr; cases hr), fun m hm => ?_⟩⟩
  rw [hr] at hm
  rcases List.mem_cons.1 hm with rfl | hm
  · exact one m hi k1 w hw
  · rw [List.mem_singleton] at hm
    subst hm
    exact one m hj k2 w hw

variable {rest : List Oper}
/-- append(s, x...), s being nil and nothing coming -/
theorem sw_append_nn {d m : Nat} {t el : TypeId} {nb : Nat} {x y : Operand} {z : Value} {c' : Nat} {a : Option Addr} {pos : String} {after : Array Edge}
    [hx : Ev n e x (.slice none 0 0)] [hy : Ev n e y (.slice a m c')] [he : Elem P t el 1 nb z] (hm : m = 0)
    (k : SW P ops Q n w0 rest ((d, .slice none 0 0) :: e) Rs) :
    SW P ops Q n w0 ({ dst := some d, op := .call { callee := .builtin .append, args := [x, y].toArray, argTypes := [t, t].toArray }, type := ty, pos := pos, after := after, guard := none } :: rest) e Rs := by
  intro w hw
  subst hm
  obtain ⟨i0, hi, hz0, hz1, hz2⟩ := info_parts he.info
  have hf : ∀ ad : Addr, (Builtin.firstCells i0.size 0 (.slice (some ad) 0 c')).run P w = .ok #[] w := fun ad => run_firstCells_some w i0.size 0 ad 0 c' [] (by simp) (by simp)
  have hr : (Builtin.append_ #[t, t] ty #[.slice none 0 0, .slice a 0 c']).run P w = .ok (.slice none 0 0) w := by
    cases a with
    | none => simp [Builtin.append_, run_underlying he.und, sizeOf, typeInfo, hi, Builtin.lenOf, run_firstCells_none]
    | some ad => simp [Builtin.append_, run_underlying he.und, sizeOf, typeInfo, hi, Builtin.lenOf, hf]
  refine wpM_value rfl (run_call_append rfl w hr) ?_
  rw [actM_put]
  exact k w hw
end
end Go.Gsl
