/- Deferred calls of closures; what they recover. -/
import Derived.Test.YtemediifhpgdgaaGreatGE
namespace Go.Gsl
set_option linter.unusedVariables false

/-- The contract of a function that is entered as a deferred call, the frame below being in the mode u: that frame goes on to return. -/
def SpecD (P : Program) (f : FuncId) (args : List Value) (u : FrameMode) (ks : List Nat) (rs : List HProp) (Post : List Res → List Res → Prop) : Prop :=
  ∀ (w0 : World) (F : List Res) (w : World), Sat w0 w (ks.zip rs ++ F) → CallsDIn Fence.wide 0 P f args.toArray u w fun x u' w' => (∃ v, x = .returned v) ∧ settle u' = .returning ∧ ∃ Rs', Post F Rs' ∧ Sat w0 w' Rs'

/-- a deferred call more on the activation -/
def Cont.dfr (d : Deferred) (Q : Cont) : Cont := ⟨Q.r, d :: Q.m, Q.q⟩
/-- the deferred call of a closure -/
def dCall (f : FuncId) (cs : List Value) : Deferred := { target := .fn (.func f) cs.toArray, args := #[] }

section
variable {P : Program} {ops : List Oper} {Q : Cont} {n : Nat} {w0 : World} {l rest : List Oper} {e : Env} {Rs Rs' F : List Res}

theorem Cont.dfr_next {d : Deferred} {y : Code} : (Q.next P y).dfr d = (Q.dfr d).next P y := rfl
theorem Cont.dfr_block {d : Deferred} {id : Nat} : (Q.block id).dfr d = (Q.dfr d).block id := rfl

theorem sw_defer {x : Operand} {f : FuncId} {cs : List Value} {ts : Array TypeId} {ty : TypeId} {pos : String} {after : Array Edge} [hx : Ev n e x (.func (.func f) #[] cs.toArray)] (hq : Q.r = none)
    (k : SW P ops (Q.dfr (dCall f cs)) n w0 rest e Rs) :
    SW P ops Q n w0 ({ dst := none, op := .defer { callee := .value x, args := [].toArray, argTypes := ts }, type := ty, pos := pos, after := after, guard := none } :: rest) e Rs := by
  intro w hw
  have h : (execOp (act n e).eval { dst := none, op := .defer { callee := .value x, args := [].toArray, argTypes := ts }, type := ty, pos := pos, after := after, guard := none }).run P w = .ok (.defer (dCall f cs)) w := by
    unfold execOp
    simp [resolve, hx.out, Deferred.ofValue, dCall]
  have hk := k w hw
  unfold wpListIn
  rw [if_pos (by simp [Region.wanted])]
  unfold Oper.wpIn
  refine ⟨fun _ _ => trivial, ?_⟩
  rw [hq]
  rw [show (fz none).round = none from rfl, Oper.semAt_none, actM_eval, h, Oper.uponIn_defer]
  have hk' : wpListIn (fz none) 0 P ops.toArray Q.q rest (actM (dCall f cs :: Q.m) n e) w := by
    have := hk
    rw [show (Q.dfr (dCall f cs)).r = none from hq] at this
    exact this
  exact hk'

/-- What the body of a function with deferred calls must come to. -/
def PostD (P : Program) (fn : Func) (w0 : World) (R : Value → List Res → Prop) : Cont :=
  ⟨none, [], fun x a w => bodyPostM Fence.wide 0 P fn (fun x w' => ∃ v Rs', x = .returned v ∧ R v Rs' ∧ Sat w0 w' Rs') x a w⟩

theorem spec_ofD {f : FuncId} {fn : Func} {c : Code} {vs : List Value} {ks : List Nat} {rs : List HProp} {R : List Res → Value → List Res → Prop} {Z : List Res → List Res} (hf : P.funcs[f]? = some fn) (hb : fn.body = some c) (hn : fn.ntmps = n) (hl : Nat.ble vs.length n = true)
    [ha : ArgE 0 vs e] [hz : ZipR ks rs Z] (h : ∀ w0 F, SC P (PostD P fn w0 (R F)) n w0 c e (Z F)) : Spec P f vs ks rs R := by
  intro w0 F w hw
  refine callsIn_wide.1 (callsIn_of_wp_marks (n := 0) hf hb trivial ?_)
  rw [hn, act_args vs n (Nat.le_of_ble_eq_true hl), ha.out]
  rw [hz.out] at hw
  exact Code.wpIn_mono (fun _ _ _ q => q) (h w0 F w hw)

/-- the way out, through the deferred call -/
theorem sq_dfr {fn : Func} {R : Value → List Res → Prop} {f : FuncId} {cs : List Value} {ks : List Nat} {rs : List HProp} {A : List Res → List Res → Prop} {x : Exit} {u : FrameMode}
    (hx : (x = .ret ∧ u = .returning) ∨ ∃ c, x = .panic c ∧ u = .panicking c) (hs : SpecD P f cs u ks rs A) [hb : Body P f] [hsp : Split Rs ks rs F]
    (k : ∀ Rs', A F Rs' → ∃ v Rs'', R v Rs'' ∧ (∀ w, Sat w0 w Rs' → (results fn (act n e).tmps).run P w = .ok v w) ∧ Ent Rs' Rs'') :
    SQ ((PostD P fn w0 R).dfr (dCall f cs)) n w0 x e Rs := by
  intro w hw
  have hcall := hs w0 F w (hw.ent hsp.ent)
  have hmain : LeavesInM Fence.wide 0 P fn (act n e).tmps (fun x w' => ∃ v Rs', x = .returned v ∧ R v Rs' ∧ Sat w0 w' Rs') [dCall f cs] u w := by
    refine ⟨by rcases hx with ⟨_, rfl⟩ | ⟨c, _, rfl⟩ <;> simp, .inr ⟨fun h => by simp [Fence.wide] at h, .func f, cs.toArray, f, cs.toArray, rfl, ?_, fun _ _ => trivial, ?_⟩⟩
    · show (invoke (.fn (.func f) cs.toArray) #[]).run P w = _
      simp only [invoke]
      rw [show (#[] : Array Value) ++ cs.toArray = cs.toArray by simp]
      exact hb.out _ _
    · refine CallsDIn.mono hcall ?_
      rintro y u' w' ⟨⟨v0, rfl⟩, hu, Rs', hA, hw'⟩
      show LeavesInM _ _ _ _ _ _ [] (settle u') w'
      rw [hu]
      obtain ⟨v, Rs'', h1, h2, h3⟩ := k Rs' hA
      exact ⟨v, h2 w' hw', v, Rs'', rfl, h1, hw'.ent h3⟩
  rcases hx with ⟨rfl, rfl⟩ | ⟨c, rfl, rfl⟩
  · exact hmain
  · exact hmain
end
end Go.Gsl
namespace Go.Gsl
section
variable {P : Program} {ops : List Oper} {Q : Cont} {n : Nat} {w0 : World} {l rest : List Oper} {e : Env} {Rs Rs' F G : List Res} {ty : TypeId} {fuel : Nat} {listed : Array Bool}
theorem SpecP.ret {f : FuncId} {args : List Value} {ks : List Nat} {rs : List HProp} {A B A' : List Res → Value → List Res → Prop} (h : SpecP P f args ks rs A B) (ha : ∀ F v Rs', A F v Rs' → A' F v Rs') (hb : ∀ F v Rs', ¬ B F v Rs') : Spec P f args ks rs A' :=
  (h.mono (A' := A') (B' := B) ha (fun _ _ _ h => h)).spec hb
/-- a call that panics -/
theorem sw_callN {d : Nat} {f : FuncId} {args : List Operand} {ts : Array TypeId} {pos : String} {after : Array Edge} {vs : List Value} {ks : List Nat} {rs : List HProp} {B : List Res → Value → List Res → Prop}
    (hs : SpecP P f vs ks rs (fun _ _ _ => False) B) [hb : Body P f] [ha : EvL n e args vs] [hsp : Split Rs ks rs F]
    (kp : ∀ v Rs', B F v Rs' → SQ Q n w0 (.panic [{ v, recovered := false }]) e Rs') :
    SW P ops Q n w0 ({ dst := some d, op := .call { callee := .value (.func f), args := args.toArray, argTypes := ts }, type := ty, pos := pos, after := after, guard := none } :: rest) e Rs :=
  sw_callP hs (fun _ _ h => h.elim) kp
theorem sq_draws_pan {c : List PanicEntry} (h : SQ Q n w0 (.panic c) e Rs) : SQ (Q.draws P ops w0 G fuel listed) n w0 (.panic c) e Rs := fun w hw => h w hw
instance Go1.draws_pan {c : List PanicEntry} : Go1 (SQ (Q.draws P ops w0 G fuel listed) n w0 (.panic c) e Rs) (SQ Q n w0 (.panic c) e Rs) := ⟨sq_draws_pan⟩
end
end Go.Gsl
