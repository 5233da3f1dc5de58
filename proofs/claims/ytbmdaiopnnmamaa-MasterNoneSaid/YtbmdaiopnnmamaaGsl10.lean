/- Loops over functions: an iterator's contract; the statement; the rounds; the return behind a mark. -/
import Derived.Test.YtbmdaiopnnmamaaGsl9
import Derived.RangeFuncNested
namespace Go.Gsl
set_option linter.unusedVariables false

/-- a mark more on the activation -/
def Cont.mark (r : Nat) (Q : Cont) : Cont := ⟨Q.r, { target := .collected r, args := #[] } :: Q.m, Q.q⟩
/-- the block for the rounds' deferred calls -/
def defers0 (r : Nat) : HProp := pts r (.deferred (some []))
/-- the loop's record -/
def LoopR (l : Nat) (rc : Loop) (st : LoopState) (pe : Option Code) : HProp := pts l (.loop { rc with state := st, pending := pe })

/-- The contract of a loop's round, as the iterator sees it. -/
def SpecY (P : Program) (l : Nat) (args : List Value) (ks : List Nat) (rs : List HProp) (Post : List Res → Value → List Res → Prop) : Prop :=
  ∀ (w0 : World) (F : List Res) (w : World), Sat w0 w (ks.zip rs ++ F) → ∃ fn tmps assign body, (Instr.yield l args.toArray).run P w = .ok (.round l fn tmps assign body) w ∧
    RoundIn (fz none) 0 P l fn tmps assign body w fun x w' => ∃ v Rs', x = .returned v ∧ Post F v Rs' ∧ Sat w0 w' Rs'

/-- The contract of an iterator: a function that is handed 'yield' and what it has captured. 'Nx pre x': x may come when 'pre' have come; 'Dn xs': these are all. -/
def IterC (P : Program) (f : FuncId) (cs : List Value) (ks : List Nat) (rs : List HProp) {α : Type} (enc : α → Value) (Nx : List α → α → Prop) (Dn : List α → Prop) : Prop :=
  ∀ (l : Nat) (J Jx : List α → HProp),
    (∀ pre x, Nx pre x → SpecY P l [enc x] [l] [J pre] fun F v Rs' => (v = .bool true ∧ Rs' = (l, J (pre ++ [x])) :: F) ∨ (v = .bool false ∧ Rs' = (l, Jx (pre ++ [x])) :: F)) →
    Spec P f (.func (.yield l) #[] #[] :: cs) (l :: ks) (J [] :: rs) fun F v Rs' => v = .tuple #[] ∧
      ((∃ xs, Dn xs ∧ Rs' = (l, J xs) :: (ks.zip rs ++ F)) ∨ (∃ pre x, Nx pre x ∧ Rs' = (l, Jx (pre ++ [x])) :: (ks.zip rs ++ F)))

section
variable {P : Program} {ops : List Oper} {Q : Cont} {n : Nat} {w0 : World} {l rest : List Oper} {e : Env} {Rs Rs' F G : List Res} {ty : TypeId}

theorem run_call_yield {x : Operand} {lp : Nat} {args : List Operand} {vs : List Value} {ts : Array TypeId} {o : Oper} (ho : o.op = .call { callee := .value x, args := args.toArray, argTypes := ts }) [hx : Ev n e x (.func (.yield lp) #[] #[])] (ha : args.map (act n e).eval = vs) (w : World) :
    (execOp (act n e).eval o).run P w = (Instr.yield lp vs.toArray).run P w := by
  unfold execOp
  rw [ho]
  simp [resolve, hx.out, Deferred.ofValue, invoke, ha]

/-- a call of 'yield' -/
theorem sw_yield {d : Nat} {x : Operand} {lp : Nat} {args : List Operand} {ts : Array TypeId} {ty : TypeId} {pos : String} {after : Array Edge} {vs : List Value} {ks : List Nat} {rs : List HProp} {Post : List Res → Value → List Res → Prop}
    [hx : Ev n e x (.func (.yield lp) #[] #[])] [ha : EvL n e args vs] (hq : Q.r = none) (hs : SpecY P lp vs ks rs Post) [hsp : Split Rs ks rs F]
    (k : ∀ v Rs', Post F v Rs' → SW P ops Q n w0 rest ((d, v) :: e) Rs') :
    SW P ops Q n w0 ({ dst := some d, op := .call { callee := .value x, args := args.toArray, argTypes := ts }, type := ty, pos := pos, after := after, guard := none } :: rest) e Rs := by
  intro w hw
  obtain ⟨fn, tmps, assign, body, hy, hR⟩ := hs w0 F w (hw.ent hsp.ent)
  refine wpM_upon rfl (by rw [actM_eval, run_call_yield rfl ha.out, hy]) (fun _ h => by cases h) ?_
  rw [Oper.uponIn_round]
  refine ⟨fun h => by simp [fz, Fence.wide] at h, ?_⟩
  rw [hq]
  refine RoundIn.mono hR ?_
  rintro x w' ⟨v, Rs', rfl, hp, hw'⟩
  show wpListIn _ _ _ _ _ _ ((actM Q.m n e).put (some d) v) w'
  rw [actM_put]
  have := k v Rs' hp w' hw'
  rwa [hq] at this

/-! ### a round -/
/-- the loop's assignments, then the body -/
def Cont.rAssign (P : Program) (l : Nat) (body : Code) (Qb : Cont) : Cont :=
  ⟨some l, [], Exit.then (fun a₁ w₁ => ∃ w₂, (Instr.beginRound l).run P w₁ = .ok () w₂ ∧ body.wpIn (fz (some l)) 0 P Qb.q a₁ w₂) (fun _ _ _ => False)⟩
/-- what a round comes to -/
def Cont.rEnd (P : Program) (l : Nat) (rc : Loop) (S : List Res) (Sx : Code → List Res) (w0 : World) (F : List Res) : Cont :=
  ⟨some l, [], roundPost P l fun x w' => (x = .returned (.bool true) ∧ Sat w0 w' ((l, LoopR l rc .ready none) :: S ++ F)) ∨ (x = .returned (.bool false) ∧ ∃ c, Sat w0 w' ((l, LoopR l rc .done (some c)) :: Sx c ++ F))⟩

theorem sq_rAssign {lp : Nat} {rc : Loop} {pe : Option Code} {body : Code} {S : List Res} {Sx : Code → List Res} {F' : List Res} [t : Take Rs lp (LoopR lp rc .ready pe) F]
    (h : SC P (Cont.rEnd P lp rc S Sx w0 F') n w0 body e ((lp, LoopR lp rc .busy none) :: F)) (hp : pe = none := by rfl) :
    SQ (Cont.rAssign P lp body (Cont.rEnd P lp rc S Sx w0 F')) n w0 .normal e Rs := by
  subst hp
  intro w hw
  have hb := hw.get t
  refine ⟨_, run_beginRound hb rfl, ?_⟩
  have h2 := h _ (hw.set t (.loop { rc with state := .busy, pending := none }))
  exact h2

theorem sq_rEnd {lp : Nat} {rc : Loop} {S : List Res} {Sx : Code → List Res} {F' : List Res} {st : LoopState} {pe : Option Code} [t : Take Rs lp (LoopR lp rc st pe) F] (h : Ent F (S ++ F')) :
    SQ (Cont.rEnd P lp rc S Sx w0 F') n w0 .normal e Rs := by
  intro w hw
  have hb := hw.get t
  refine ⟨_, _, run_endRound none hb, .inl ⟨rfl, ?_⟩⟩
  exact (hw.set t (.loop { rc with state := .ready, pending := none })).ent (Ent.cons _ h)

theorem sq_rEnd_ret {lp : Nat} {rc : Loop} {S : List Res} {Sx : Code → List Res} {F' : List Res} {st : LoopState} {pe : Option Code} [t : Take Rs lp (LoopR lp rc st pe) F] (h : Ent F (Sx .ret ++ F')) :
    SQ (Cont.rEnd P lp rc S Sx w0 F') n w0 .ret e Rs := by
  intro w hw
  have hb := hw.get t
  refine ⟨_, _, run_endRound (some .ret) hb, .inr ⟨rfl, .ret, ?_⟩⟩
  exact (hw.set t (.loop { rc with state := .done, pending := some .ret })).ent (Ent.cons _ h)

theorem sq_rEnd_exit {lp id : Nat} {rc : Loop} {S : List Res} {Sx : Code → List Res} {F' : List Res} {st : LoopState} {pe : Option Code} [t : Take Rs lp (LoopR lp rc st pe) F] (h : Ent F (Sx (.exit id) ++ F')) :
    SQ (Cont.rEnd P lp rc S Sx w0 F') n w0 (.exit id) e Rs := by
  intro w hw
  have hb := hw.get t
  refine ⟨_, _, run_endRound (some (.exit id)) hb, .inr ⟨rfl, .exit id, ?_⟩⟩
  exact (hw.set t (.loop { rc with state := .done, pending := some (.exit id) })).ent (Ent.cons _ h)

/-! ### the statement -/
theorem act_round {m : List Deferred} {p : Nat} {v : Value} : ({ tmps := ((#[p] : Array Tmp).zip #[v]).foldl (fun tmps (t, a) => tmps.setIfInBounds t a) (actM m n e).tmps, defers := [] } : Act) = actM [] n ((p, v) :: e) := by
  have := actM_put [] n e p v
  simp only [actM, Act.put] at this ⊢
  simp only [← this]
  simp

theorem Ent.perm {A B : List Res} (h : A.Perm B) : Ent A B := by
  induction h with
  | nil => exact Ent.refl _
  | cons x _ ih => exact Ent.cons x ih
  | swap x y l => exact Ent.swap _ _ _
  | trans _ _ h1 h2 => exact h1.trans h2

theorem sat_ex {α : Type} {k : Nat} {R : α → HProp} {w : World} (h : Sat w0 w ((k, fun h => ∃ x, R x h) :: F)) : ∃ x, Sat w0 w ((k, R x) :: F) := by
  obtain ⟨x, _, h1⟩ := h.opn (φ := fun _ => True) (p := R) fun y ⟨x, hx⟩ => ⟨x, trivial, hx⟩
  exact ⟨x, h1⟩
theorem sat_ex_of {α : Type} {k : Nat} {R : α → HProp} {w : World} (x : α) (h : Sat w0 w ((k, R x) :: F)) : Sat w0 w ((k, fun h => ∃ x, R x h) :: F) := by
  exact h.ent (Ent.head fun y hx => ⟨x, hx⟩)

theorem roundPost_mono {lp : Nat} {R R' : Ending → World → Prop} (h : ∀ x w, R x w → R' x w) (e : Exit) (a : Act) (w : World) : roundPost P lp R e a w → roundPost P lp R' e a w := by
  cases e <;> simp only [roundPost] <;> first | exact fun h => h | (rintro ⟨v, w', h1, h2⟩; exact ⟨v, w', h1, h _ _ h2⟩)

/-- 'for x := range g { body }', at the outermost. -/
theorem sc_rangeFunc {α : Type} {g : Operand} {p : Nat} {assign body : Code} {f : FuncId} {cs : List Value} {ks : List Nat} {rs : List HProp} {enc : α → Value} {Nx : List α → α → Prop} {Dn : List α → Prop}
    (it : IterC P f cs ks rs enc Nx Dn) (hq : Q.r = none) (St : List α → List Res) (Sx : Code → List α → List Res) [hg : Ev n e g (.func (.func f) #[] cs.toArray)] [hb : Body P f] [hsp : Split Rs ks rs F]
    (h0 : Ent F (St []))
    (round : ∀ w0 lp rc F' pre x, Nx pre x → SC P (Cont.rAssign P lp body (Cont.rEnd P lp rc (St (pre ++ [x])) (fun c => Sx c (pre ++ [x])) w0 F')) n w0 assign ((p, enc x) :: e) ((lp, LoopR lp rc .ready none) :: (St pre ++ F')))
    (done : ∀ r xs, Dn xs → SQ (Q.mark r) n w0 .normal e ((r, defers0 r) :: (ks.zip rs ++ St xs)))
    (stop : ∀ r c pre x, Nx pre x → SC P (Q.mark r) n w0 c e ((r, defers0 r) :: (ks.zip rs ++ Sx c (pre ++ [x])))) :
    SC P Q n w0 (.rangeFunc g #[p] assign body) e Rs := by
  intro w hw
  rw [hq]
  refine wpIn_rangeFunc ?_
  intro fn hfn
  obtain ⟨rc, hrc⟩ : ∃ rc : Loop, rc = { state := .ready, pending := none, fn, tmps := (actM Q.m n e).tmps, params := #[p], assign, body, defers := w.heap.size } := ⟨_, rfl⟩
  obtain ⟨W1, hW1⟩ : ∃ W1, (w.alloc (.deferred (some []))).alloc (.loop rc) = W1 := ⟨_, rfl⟩
  have hs0 : Sat w0 w (ks.zip rs ++ F) := hw.ent hsp.ent
  have hs1 : Sat w0 (w.alloc (.deferred (some []))) ((w.heap.size, defers0 w.heap.size) :: (ks.zip rs ++ F)) := hs0.new _
  have hs2 : Sat w0 W1 ((w.heap.size + 1, pts (w.heap.size + 1) (.loop rc)) :: (w.heap.size, defers0 w.heap.size) :: (ks.zip rs ++ F)) := by
    have := hs1.new (.loop rc)
    rw [World.size_alloc] at this
    rw [← hW1]; exact this
  refine ⟨w.heap.size + 1, [{ target := .collected w.heap.size, args := #[] }], W1, { target := .fn (.func f) cs.toArray, args := #[.func (.yield (w.heap.size + 1)) #[] #[]] }, W1, f,
    #[.func (.yield (w.heap.size + 1)) #[] #[]] ++ cs.toArray, W1, ?_, ?_, fun _ _ => trivial, ?_, fun h => by simp [fz, Fence.wide] at h, ?_⟩
  · rw [← hW1, hrc]; exact run_enterLoop_outer _ _ _ _ _
  · have : (actM Q.m n e).eval g = .func (.func f) #[] cs.toArray := hg.out
    simp only [resolve, this]
    simp [Deferred.ofValue, Act.eval]
  · have h3 : #[.func (.yield (w.heap.size + 1)) #[] #[]] ++ cs.toArray = #[.func (.yield (w.heap.size + 1)) #[] #[]] ++ cs.toArray := rfl
    simp only [invoke]
    exact hb.out _ _
  · refine callsIn_fz.2 ?_
    have hspec := it (w.heap.size + 1) (fun pre => hall ((w.heap.size + 1, LoopR (w.heap.size + 1) rc .ready none) :: St pre)) (fun pre h => ∃ c, hall ((w.heap.size + 1, LoopR (w.heap.size + 1) rc .done (some c)) :: Sx c pre) h) ?_
    · have h4 : #[.func (.yield (w.heap.size + 1)) #[] #[]] ++ cs.toArray = (Value.func (.yield (w.heap.size + 1)) #[] #[] :: cs).toArray := by simp
      rw [h4]
      refine Calls.mono (hspec w0 [(w.heap.size, defers0 w.heap.size)] W1 ?_) ?_
      · show Sat w0 W1 ((w.heap.size + 1, _) :: (ks.zip rs ++ [(w.heap.size, defers0 w.heap.size)]))
        refine hs2.ent ?_
        have e1 : pts (w.heap.size + 1) (.loop rc) = LoopR (w.heap.size + 1) rc .ready none := by unfold LoopR; rw [hrc]
        rw [e1]
        refine Ent.trans (B := (w.heap.size + 1, LoopR (w.heap.size + 1) rc .ready none) :: (St [] ++ (ks.zip rs ++ [(w.heap.size, defers0 w.heap.size)]))) (Ent.cons _ ?_) (Ent.hall_close _ (_ :: _) _)
        refine Ent.trans (B := (w.heap.size, defers0 w.heap.size) :: (ks.zip rs ++ St [])) (Ent.cons _ (Ent.append (Ent.refl _) h0)) (Ent.perm ?_)
        refine (List.perm_append_comm (l₁ := [_]) (l₂ := ks.zip rs ++ St [])).trans ?_
        rw [← List.append_assoc]
        exact (List.perm_append_comm (l₁ := ks.zip rs) (l₂ := St [])).append_right _
      · rintro x w' ⟨v, Rs', rfl, ⟨rfl, hc⟩, hs'⟩
        have hperm : ∀ S : List Res, Ent (S ++ (ks.zip rs ++ [(w.heap.size, defers0 w.heap.size)])) ((w.heap.size, defers0 w.heap.size) :: (ks.zip rs ++ S)) := fun S => by
          refine Ent.perm (List.Perm.symm ?_)
          refine (List.perm_append_comm (l₁ := [_]) (l₂ := ks.zip rs ++ S)).trans ?_
          rw [← List.append_assoc]
          exact (List.perm_append_comm (l₁ := ks.zip rs) (l₂ := S)).append_right _
        rcases hc with ⟨xs, hD, rfl⟩ | ⟨pre, x, hN, rfl⟩
        · have hs3 := hs'.ent (Ent.hall_open _ (_ :: _) _)
          have hb3 := hs3.get (Take.here _ _ _)
          refine ⟨none, _, run_endLoop hb3 (by simp), ?_⟩
          have hs4 := (hs3.set (Take.here _ _ _) (.loop { rc with state := .exhausted, pending := none })).ent ((Ent.drop _ _).trans (hperm (St xs)))
          exact done w.heap.size xs hD _ hs4
        · obtain ⟨c, hc⟩ := sat_ex (R := fun c => hall ((w.heap.size + 1, LoopR (w.heap.size + 1) rc .done (some c)) :: Sx c (pre ++ [x]))) hs'
          have hs3 := hc.ent (Ent.hall_open _ (_ :: _) _)
          have hb3 := hs3.get (Take.here _ _ _)
          refine ⟨some c, _, run_endLoop hb3 (by simp), ?_⟩
          have hs4 := (hs3.set (Take.here _ _ _) (.loop { rc with state := .exhausted, pending := some c })).ent ((Ent.drop _ _).trans (hperm (Sx c (pre ++ [x]))))
          have := stop w.heap.size c pre x hN _ hs4
          rw [show (Q.mark w.heap.size).r = none from hq] at this
          exact this
    · intro pre x hN w0' F' w' hs'
      have hs3 := hs'.ent (Ent.hall_open _ (_ :: _) _)
      have hb3 := hs3.get (Take.here _ _ _)
      have hy := run_yield (P := P) (args := #[enc x]) hb3 (by simp [hrc])
      refine ⟨fn, _, assign, body, by rw [hrc] at hy; exact hy, ?_⟩
      refine roundIn_of_wpIn (F := fz none) hfn ?_
      have hr := round w0' (w.heap.size + 1) rc F' pre x hN w' hs3
      have ha := act_round (m := Q.m) (n := n) (e := e) (p := p) (v := enc x)
      rw [show (Cont.rAssign P (w.heap.size + 1) body (Cont.rEnd P (w.heap.size + 1) rc (St (pre ++ [x])) (fun c => Sx c (pre ++ [x])) w0' F')).m = [] from rfl, ← ha] at hr
      refine Code.wpIn_mono ?_ hr
      intro x0 a0 w1 hq1
      cases x0 with
      | normal =>
        obtain ⟨w2, hb, hbody⟩ := hq1
        refine ⟨w2, hb, Code.wpIn_mono ?_ hbody⟩
        intro e1 a1 w4 h1
        have h2 : roundPost P (w.heap.size + 1) (fun y w' => (y = .returned (.bool true) ∧ Sat w0' w' ((w.heap.size + 1, LoopR (w.heap.size + 1) rc .ready none) :: St (pre ++ [x]) ++ F')) ∨ (y = .returned (.bool false) ∧ ∃ c, Sat w0' w' ((w.heap.size + 1, LoopR (w.heap.size + 1) rc .done (some c)) :: Sx c (pre ++ [x]) ++ F'))) e1 a1 w4 := h1
        refine roundPost_mono ?_ e1 a1 w4 h2
        rintro y w3 (⟨rfl, hs⟩ | ⟨rfl, c, hs⟩)
        · exact ⟨_, _, rfl, .inl ⟨rfl, rfl⟩, hs.ent (Ent.hall_close _ (_ :: _) _)⟩
        · refine ⟨_, _, rfl, .inr ⟨rfl, rfl⟩, ?_⟩
          exact sat_ex_of (R := fun c => hall ((w.heap.size + 1, LoopR (w.heap.size + 1) rc .done (some c)) :: Sx c (pre ++ [x]))) c (hs.ent (Ent.hall_close _ (_ :: _) _))
      | _ => exact hq1.elim

/-! ### on behind the loop -/
theorem sq_then_m {r : Nat} {y : Code} (h : SC P (Q.mark r) n w0 y e Rs) : SQ ((Q.next P y).mark r) n w0 .normal e Rs := fun w hw => h w hw
theorem sq_then_ret_m {r : Nat} {y : Code} (h : SQ (Q.mark r) n w0 .ret e Rs) : SQ ((Q.next P y).mark r) n w0 .ret e Rs := fun w hw => h w hw
theorem sq_then_exit_m {r : Nat} {y : Code} {id : Nat} (h : SQ (Q.mark r) n w0 (.exit id) e Rs) : SQ ((Q.next P y).mark r) n w0 (.exit id) e Rs := fun w hw => h w hw
theorem sq_block_m {r id : Nat} (h : SQ (Q.mark r) n w0 .normal e Rs) : SQ ((Q.block id).mark r) n w0 .normal e Rs := fun w hw => h w hw
theorem sq_block_ret_m {r id : Nat} (h : SQ (Q.mark r) n w0 .ret e Rs) : SQ ((Q.block id).mark r) n w0 .ret e Rs := fun w hw => h w hw
theorem sq_block_exit_m {r id : Nat} (h : SQ (Q.mark r) n w0 .normal e Rs) : SQ ((Q.block id).mark r) n w0 (.exit id) e Rs := fun w hw => by
  have := h w hw
  show Exit.inBlock id Q.q (.exit id) (actM (Q.mark r).m n e) w
  have h2 : Q.q .normal (actM (Q.mark r).m n e) w := this
  simpa [Exit.inBlock] using h2
theorem sq_round_ret_m {α : Type} {inv : α → Env} {R : α → List Res} {m : α → Nat} {x : α} {r : Nat} (h : SQ (Q.mark r) n w0 .ret e Rs) : SQ ((Q.round n w0 inv R m x).mark r) n w0 .ret e Rs := fun w hw => h w hw
theorem Calm.mark {r : Nat} (h : Calm Q) : Calm (Q.mark r) := fun c a d v w x => h c a d v w x

theorem sq_ret_m {r : Nat} {fn : Func} {R : Value → List Res → Prop} (hq : Q.q = (Post P fn w0 R).q) [t : Take Rs r (defers0 r) F] (h : SQ Q n w0 .ret e F) : SQ (Q.mark r) n w0 .ret e Rs := by
  intro w hw
  show Q.q .ret _ _
  have hb := hw.get t
  have h2 := h _ ((hw.set t (.deferred none)).ent (Ent.drop _ _))
  rw [hq] at h2 ⊢
  exact ⟨fun _ h => (by cases h), by simp, .inl ⟨r, _, rfl, run_takeDeferred hb, h2.2⟩⟩
theorem sq_end_m {r : Nat} {fn : Func} {R : Value → List Res → Prop} (hq : Q.q = (Post P fn w0 R).q) [t : Take Rs r (defers0 r) F] (h : SQ Q n w0 .normal e F) : SQ (Q.mark r) n w0 .normal e Rs := by
  intro w hw
  show Q.q .normal _ _
  have hb := hw.get t
  have h2 := h _ ((hw.set t (.deferred none)).ent (Ent.drop _ _))
  rw [hq] at h2 ⊢
  exact ⟨fun _ h => (by cases h), by simp, .inl ⟨r, _, rfl, run_takeDeferred hb, h2.2⟩⟩

/-- nothing comes so far -/
def falseR : List Res := [(0, fun _ => False)]
theorem sc_false {c : Code} {A : List Res} : SC P Q n w0 c e (A ++ falseR) := by
  intro w hw
  obtain ⟨_, z, _, hs⟩ := hw
  obtain ⟨a, b, _, _, _, _, _, _, _, h, _⟩ := (sepL_append A falseR _).1 hs
  exact h.elim

/-- a result in a variable of its own -/
theorem results_runc {fn : Func} {t b : Nat} {ty : TypeId} {v : Value} {w : World} (hr : fn.results = #[.cell t ty]) [h : Lk e t (.pointer (some ⟨b, 0, none⟩))] [hn : Lt t n] [hna : NonAgg P ty] (hc : w.cell? ⟨b, 0, none⟩ = some v) : (results fn (act n e).tmps).run P w = .ok v w := by
  have a1 : (slots n e)[t]? = some (.pointer (some ⟨b, 0, none⟩)) := by rw [slots_getElem? n e t hn.out, h.out]
  simp [results, hr, act, a1, loadVar, hna.out, hc, asAddr]
theorem sq_retc {fn : Func} {R : Value → List Res → Prop} {t b : Nat} {ty ty' : TypeId} {v : Value} {fr : Nat × Nat} (hr : fn.results = #[.cell t ty]) [Lk e t (.pointer (some ⟨b, 0, none⟩))] [Lt t n] [NonAgg P ty] [ht : Take Rs b (pts b (.cells [v].toArray ty' fr)) F] (h : ∃ Rs', R v Rs' ∧ Ent Rs Rs') :
    SQ (Post P fn w0 R) n w0 .ret e Rs := by
  obtain ⟨Rs', h1, h2⟩ := h
  intro w hw
  exact ⟨fun _ h => (by cases h), v, results_runc hr (cell_of (hw.get ht) (by simp)), v, Rs', rfl, h1, hw.ent h2⟩
end
end Go.Gsl
