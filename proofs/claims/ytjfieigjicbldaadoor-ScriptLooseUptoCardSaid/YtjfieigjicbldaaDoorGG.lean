/- Texts as lists of bytes: their ops. -/
import Derived.Test.YtjfieigjicbldaaDoorGE
import Derived.Laws.RangeString
import Derived.Laws.Strings3
import Derived.Lib.AppendZeros
namespace Go.Gsl
set_option linter.unusedVariables false

/-- a text -/
abbrev Bs := List UInt8
abbrev sB (l : Bs) : ByteArray := ByteArray.mk l.toArray
/-- a byte as a number -/
abbrev iv (b : UInt8) : Int := (b.toNat : Int)
theorem sB_data (s : ByteArray) : sB s.data.toList = s := by cases s; simp
theorem sB_size (l : Bs) : (sB l).size = l.length := by show l.toArray.size = _; simp
theorem sB_toList (l : Bs) : (sB l).toList = l := by rw [ba_toList]
theorem sB_inj {a b : Bs} : sB a = sB b ↔ a = b := by
  constructor
  · intro h
    have := congrArg (fun s : ByteArray => s.data.toList) h
    simpa using this
  · rintro rfl; rfl
theorem iv_lt (b : UInt8) : 0 ≤ iv b ∧ iv b ≤ 255 := by have := b.toNat_lt; unfold iv; omega
theorem iv_inj {a b : UInt8} (h : iv a = iv b) : a = b := by
  have : a.toNat = b.toNat := by unfold iv at h; omega
  exact UInt8.toNat_inj.1 this
theorem iv_ofNat (k : Nat) (h : k < 256) : iv (UInt8.ofNat k) = k := by unfold iv; rw [UInt8.toNat_ofNat', Nat.mod_eq_of_lt h]
theorem ofNat_iv (b : UInt8) : UInt8.ofNat (iv b).toNat = b := by unfold iv; simp
theorem strB_iv (l : Bs) : strB (l.map iv) = sB l := by
  apply ba_inj
  rw [sB_toList, ba_toList]
  unfold strB
  rw [strB_data]
  simp only [List.map_map]
  show [] ++ _ = _
  rw [List.nil_append]
  conv => rhs; rw [← List.map_id l]
  apply List.map_congr_left
  intro b _
  exact ofNat_iv b
theorem byt_iv (l : Bs) : ∀ x ∈ l.map iv, 0 ≤ x ∧ x ≤ 255 := by
  intro x hx
  obtain ⟨b, _, rfl⟩ := List.mem_map.1 hx
  exact iv_lt b
theorem sB_extract (l : Bs) (i j : Nat) : (sB l).extract i j = sB ((l.take j).drop i) := by
  apply ba_inj
  rw [sB_toList, ba_toList]
  show ((ByteArray.mk l.toArray).extract i j).data.toList = _
  rw [ByteArray.data_extract]
  simp [List.extract_eq_take_drop, List.drop_take]
theorem sB_append (a b : Bs) : sB a ++ sB b = sB (a ++ b) := by
  apply ba_inj
  rw [sB_toList, ba_toList]
  simp [ByteArray.data_append]

section
variable {P : Program} {ops : List Oper} {Q : Cont} {n : Nat} {w0 : World} {l rest : List Oper} {e : Env} {Rs Rs' F G : List Res} {ty : TypeId} {x y : Operand} {t t' : TypeId} {a b : Bs}

instance BP.bsEq : BP ((sB a).toList == (sB b).toList) (a = b) := ⟨by rw [sB_toList, sB_toList]; simp⟩
instance (priority := 2000) PureOp.seqB [hx : Ev n e x (.string ⟨a.toArray⟩)] [hy : Ev n e y (.string ⟨b.toArray⟩)] : PureOp P n e (.binOp .eql t x y t') ty (.bool (decide (a = b))) :=
  ⟨fun o h1 _ w => run_eq_of h1 w (by simp [eqGuard]) (by
    have : (decide (a = b)) = ((sB a).toList == (sB b).toList) := by rw [sB_toList, sB_toList]; by_cases h : a = b <;> simp [h]
    rw [this]; rfl)⟩
instance (priority := 2000) PureOp.sneB [hx : Ev n e x (.string ⟨a.toArray⟩)] [hy : Ev n e y (.string ⟨b.toArray⟩)] : PureOp P n e (.binOp .neq t x y t') ty (.bool (!decide (a = b))) :=
  ⟨fun o h1 _ w => run_ne_of h1 w (by simp [eqGuard]) (by
    have : (decide (a = b)) = ((sB a).toList == (sB b).toList) := by rw [sB_toList, sB_toList]; by_cases h : a = b <;> simp [h]
    rw [this]; rfl)⟩
instance (priority := 2000) PureOp.slenS [hx : Ev n e x (.string ⟨a.toArray⟩)] [hu : Und P t .string] : PureOp P n e (.call { callee := .builtin .len, args := [x].toArray, argTypes := [t].toArray }) ty (.int .i64 a.length) :=
  ⟨fun o h1 _ w => by
    unfold execOp; rw [h1]
    have : (ByteArray.mk a.toArray).size = a.length := sB_size a
    simp [resolve, invoke, builtin, Builtin.len_, hx.out, run_und (t := t), goInt, this]⟩

theorem pure_sidx {k : IntKind} {i : Int} {c : UInt8} (h0 : 0 ≤ i) (hc : a[i.toNat]? = some c) [hx : Ev n e x (.string ⟨a.toArray⟩)] [hy : Ev n e y (.int k i)] [hu : Und P t .string] : PureOp P n e (.index t x y) ty (.int .u8 (iv c)) :=
  ⟨fun o h1 _ w => by
    unfold execOp; rw [h1]
    have h2 : i.toNat < a.length := (List.getElem?_eq_some_iff.1 hc).1
    have h3 : ((sB a).size : Int) = a.length := by rw [sB_size]
    have hi : 0 ≤ i ∧ i < ((sB a).size : Nat) := by omega
    simp only [hx.out, hy.out, Sem.run_bind]
    rw [run_index_string w t (ByteArray.mk a.toArray) k i hu.out, dif_pos hi]
    simp only [Result.andThen_ok, Sem.run_pure]
    have h4 : (sB a)[i.toNat]'(by omega) = c := by
      have := (List.getElem?_eq_some_iff.1 hc).2
      rw [← this]
      show (a.toArray)[i.toNat] = _
      simp
    rw [h4]⟩
theorem runop_sidx {k : IntKind} {i : Int} {c : UInt8} (h0 : 0 ≤ i) (hc : a[i.toNat]? = some c) [hx : Ev n e x (.string ⟨a.toArray⟩)] [hy : Ev n e y (.int k i)] [hu : Und P t .string] : RunOp P n w0 e Rs (.index t x y) ty (.int .u8 (iv c)) :=
  @RunOp.pure P n w0 e Rs _ _ _ (pure_sidx h0 hc)

theorem runop_sidx_as {k : IntKind} {i v : Int} {c : UInt8} (h0 : 0 ≤ i) (hc : a[i.toNat]? = some c) (hv : iv c = v) [hx : Ev n e x (.string ⟨a.toArray⟩)] [hy : Ev n e y (.int k i)] [hu : Und P t .string] : RunOp P n w0 e Rs (.index t x y) ty (.int .u8 v) := by
  subst hv; exact runop_sidx h0 hc
theorem runop_sget {k : IntKind} {i : Int} (h0 : 0 ≤ i ∧ i < a.length) [hx : Ev n e x (.string ⟨a.toArray⟩)] [hy : Ev n e y (.int k i)] [hu : Und P t .string] : RunOp P n w0 e Rs (.index t x y) ty (.int .u8 (iv (a.getD i.toNat 0))) :=
  runop_sidx h0.1 (by
    have h1 : i.toNat < a.length := by omega
    rw [List.getD_eq_getElem?_getD, List.getElem?_eq_getElem h1]; rfl)
instance PureOp.mkIfaceI {u : IntKind} (x : Operand) (v : Value) (t : TypeId) [h : Ev n e x v] [hu : Und P t (.int u)] : PureOp P n e (.makeInterface t x) ty (.iface t v) :=
  ⟨fun o h1 _ w => by unfold execOp; rw [h1]; simp [h.out, Instr.makeInterface, run_und (t := t)]⟩

/-- s[i:] -/
theorem runop_sfrom {k : IntKind} {i : Int} (h0 : 0 ≤ i ∧ i ≤ a.length) [hx : Ev n e x (.string ⟨a.toArray⟩)] [hy : Ev n e y (.int k i)] [hu : Und P t .string] : RunOp P n w0 e Rs (.slice t x (some y) none none) ty (.string ⟨(a.drop i.toNat).toArray⟩) :=
  @RunOp.pure P n w0 e Rs _ _ _ ⟨fun o h1 _ w => by
    unfold execOp; rw [h1]
    have h3 : ((sB a).size : Int) = a.length := by rw [sB_size]
    have hi : 0 ≤ i ∧ i ≤ ((sB a).size : Int) := by omega
    have := run_slice_string_from_if (P := P) w t (sB a) k i hu.out
    rw [if_pos hi, sB_extract, sB_size, List.take_length] at this
    simp only [Instr.sliceAt, Option.map_some, Option.map_none, hx.out, hy.out, Sem.run_bind, run_und (t := t), Result.andThen_ok]
    simp [this]⟩

/-- s[:i] -/
theorem runop_sto {k : IntKind} {i : Int} (h0 : 0 ≤ i ∧ i ≤ a.length) [hx : Ev n e x (.string ⟨a.toArray⟩)] [hy : Ev n e y (.int k i)] [hu : Und P t .string] : RunOp P n w0 e Rs (.slice t x none (some y) none) ty (.string ⟨(a.take i.toNat).toArray⟩) :=
  @RunOp.pure P n w0 e Rs _ _ _ ⟨fun o h1 _ w => by
    unfold execOp; rw [h1]
    have h3 : ((sB a).size : Int) = a.length := by rw [sB_size]
    have hi : 0 ≤ i ∧ i ≤ ((sB a).size : Int) := by omega
    have := run_slice_string_to_if (P := P) w t (sB a) k i hu.out
    rw [if_pos hi, sB_extract, List.drop_zero] at this
    simp only [Instr.sliceAt, Option.map_some, Option.map_none, hx.out, hy.out, Sem.run_bind, run_und (t := t), Result.andThen_ok]
    simp [this]⟩

/-- a + b -/
theorem runop_sadd (h : a.length + b.length ≤ 9223372036854775807) [hx : Ev n e x (.string ⟨a.toArray⟩)] [hy : Ev n e y (.string ⟨b.toArray⟩)] : RunOp P n w0 e Rs (.binOp .add t x y t') ty (.string ⟨(a ++ b).toArray⟩) :=
  @RunOp.pure P n w0 e Rs _ _ _ ⟨fun o h1 _ w => by
    unfold execOp; rw [h1]
    have h2 : ¬ ((((sB a).size + (sB b).size : Nat) : Int) > IntKind.i64.max) := by
      rw [sB_size, sB_size]
      have : IntKind.i64.max = 9223372036854775807 := rfl
      omega
    have h3 := sB_append a b
    simp only [hx.out, hy.out, Sem.run_bind]
    have hg : (eqGuard .add t x y (.string ⟨a.toArray⟩) (.string ⟨b.toArray⟩)).run P w = .ok () w := by simp [eqGuard]
    simp only [hg, Result.andThen_ok]
    rw [binOp_string_add]
    simp only [Op.stringOp]
    rw [if_neg h2]
    simp only [Sem.run_pure, Result.andThen_ok]
    rw [show (ByteArray.mk a.toArray ++ ByteArray.mk b.toArray) = ByteArray.mk (a ++ b).toArray from h3]⟩

/-- going through a text -/
theorem sw_rangeS {d : Nat} {pos : String} {after : Array Edge} [hx : Ev n e x (.string ⟨a.toArray⟩)] [hu : Und P t .string]
    (k : ∀ r, SW P ops Q n w0 rest ((d, .pointer (some ⟨r, 0, none⟩)) :: e) ((r, pts r (.stringIter ⟨a.toArray⟩ 0)) :: Rs)) :
    SW P ops Q n w0 ({ dst := some d, op := .range t x, type := ty, pos := pos, after := after, guard := none } :: rest) e Rs := by
  intro w hw
  have h : (execOp (act n e).eval { dst := some d, op := .range t x, type := ty, pos := pos, after := after, guard := none }).run P w = .ok (.value (.pointer (some ⟨w.heap.size, 0, none⟩))) (w.iter ⟨a.toArray⟩ 0) := by
    unfold execOp
    simp only [hx.out, Sem.run_bind]
    rw [run_range_string w t _ hu.out]
    simp
  refine wpM_value rfl h ?_
  rw [actM_put]
  exact k w.heap.size _ (hw.new (.stringIter ⟨a.toArray⟩ 0))

theorem sw_nextS {d i r : Nat} {c : UInt8} {pos : String} {after : Array Edge} [hx : Ev n e x (.pointer (some ⟨r, 0, none⟩))] [tk : Take Rs r (pts r (.stringIter ⟨a.toArray⟩ i)) F]
    (hc : a[i]? = some c) (ha : iv c < 128)
    (k : SW P ops Q n w0 rest ((d, .tuple #[.bool true, .int .i64 i, .int .i32 (iv c)]) :: e) ((r, pts r (.stringIter ⟨a.toArray⟩ (i + 1))) :: F)) :
    SW P ops Q n w0 ({ dst := some d, op := .next x true, type := ty, pos := pos, after := after, guard := none } :: rest) e Rs := by
  intro w hw
  have hb := hw.get tk
  have hi : i < a.length := (List.getElem?_eq_some_iff.1 hc).1
  have h2 : i < (sB a).size := by rw [sB_size]; exact hi
  have h3 : (sB a)[i]'h2 = c := by
    have := (List.getElem?_eq_some_iff.1 hc).2
    rw [← this]
    show (a.toArray)[i] = _
    simp
  have hd := decode_ascii (sB a) i h2 (by rw [h3]; unfold iv at ha; omega)
  rw [h3] at hd
  have h : (execOp (act n e).eval { dst := some d, op := .next x true, type := ty, pos := pos, after := after, guard := none }).run P w = .ok (.value (.tuple #[.bool true, .int .i64 i, .int .i32 (iv c)])) { w with heap := w.heap.setIfInBounds r (.stringIter ⟨a.toArray⟩ (i + 1)) } := by
    unfold execOp
    simp only [hx.out, Sem.run_bind]
    have hr : (Instr.next (.pointer (some ⟨r, 0, none⟩)) true ty).run P w = .ok (.tuple #[.bool true, .int .i64 i, .int .i32 (iv c)]) { w with heap := w.heap.setIfInBounds r (.stringIter ⟨a.toArray⟩ (i + 1)) } := by
      simp only [Instr.next, getObj, setObj, Sem.run_bind, Sem.run, hb, Result.andThen, h2, if_true, hd]
      simp [goInt, Sem.run, hb]
    rw [hr]
    simp
  refine wpM_value rfl h ?_
  rw [actM_put]
  exact k _ (hw.set tk _)
theorem sw_nextS_end {d r i : Nat} {pos : String} {after : Array Edge} [hx : Ev n e x (.pointer (some ⟨r, 0, none⟩))] [tk : Take Rs r (pts r (.stringIter ⟨a.toArray⟩ i)) F]
    (hc : ¬ i < a.length)
    (k : SW P ops Q n w0 rest ((d, .tuple #[.bool false]) :: e) ((r, pts r (.stringIter ⟨a.toArray⟩ i)) :: F)) :
    SW P ops Q n w0 ({ dst := some d, op := .next x true, type := ty, pos := pos, after := after, guard := none } :: rest) e Rs := by
  intro w hw
  have hb := hw.get tk
  have h2 : ¬ i < (sB a).size := by rw [sB_size]; exact hc
  have h : (execOp (act n e).eval { dst := some d, op := .next x true, type := ty, pos := pos, after := after, guard := none }).run P w = .ok (.value (.tuple #[.bool false])) w := by
    unfold execOp
    simp only [hx.out, Sem.run_bind]
    have hr : (Instr.next (.pointer (some ⟨r, 0, none⟩)) true ty).run P w = .ok (.tuple #[.bool false]) w := by
      simp [Instr.next, getObj, Sem.run, hb, h2]
    rw [hr]
    simp
  refine wpM_value rfl h ?_
  rw [actM_put]
  exact k _ (hw.ent tk.ent)
end
end Go.Gsl

namespace Go.Gsl
set_option linter.unusedVariables false

/-- The contract of a function that is entered as a deferred call, the frame below being in the mode u: that frame goes on to return. -/
def SpecD (P : Program) (f : FuncId) (args : List Value) (u : FrameMode) (ks : List Nat) (rs : List HProp) (Post : List Res → List Res → Prop) : Prop :=
  ∀ (w0 : World) (F : List Res) (w : World), Sat w0 w (ks.zip rs ++ F) → CallsDIn Fence.wide 0 P f args.toArray u w fun x u' w' => (∃ v, x = .returned v) ∧ settle u' = .returning ∧ ∃ Rs', Post F Rs' ∧ Sat w0 w' Rs'

/-- a deferred call more on the activation -/
def Cont.dfr (d : Deferred) (Q : Cont) : Cont := ⟨Q.r, d :: Q.m, Q.q⟩
/-- the deferred call of a closure -/
def dCall (f : FuncId) (cs : List Value) : Deferred := { target := .fn (.func f) cs.toArray, args := #[] }

section
variable {P : Program} {ops : List Oper} {Q : Cont} {n : Nat} {w0 : World} {l rest : List Oper} {e : Env} {Rs Rs' F : List Res}

theorem Cont.dfr_next {d : Deferred} {y : Code} : (Q.next P y).dfr d = (Q.dfr d).next P y := rfl
theorem Cont.dfr_block {d : Deferred} {id : Nat} : (Q.block id).dfr d = (Q.dfr d).block id := rfl

theorem sw_defer {x : Operand} {f : FuncId} {cs : List Value} {ts : Array TypeId} {ty : TypeId} {pos : String} {after : Array Edge} [hx : Ev n e x (.func (.func f) #[] cs.toArray)] (hq : Q.r = none)
    (k : SW P ops (Q.dfr (dCall f cs)) n w0 rest e Rs) :
    SW P ops Q n w0 ({ dst := none, op := .defer { callee := .value x, args := [].toArray, argTypes := ts }, type := ty, pos := pos, after := after, guard := none } :: rest) e Rs := by
  intro w hw
  have h : (execOp (act n e).eval { dst := none, op := .defer { callee := .value x, args := [].toArray, argTypes := ts }, type := ty, pos := pos, after := after, guard := none }).run P w = .ok (.defer (dCall f cs)) w := by
    unfold execOp
    simp [resolve, hx.out, Deferred.ofValue, dCall]
  have hk := k w hw
  unfold wpListIn
  rw [if_pos (by simp [Region.wanted])]
  unfold Oper.wpIn
  refine ⟨fun _ _ => trivial, ?_⟩
  rw [hq]
  rw [show (fz none).round = none from rfl, Oper.semAt_none, actM_eval, h, Oper.uponIn_defer]
  have hk' : wpListIn (fz none) 0 P ops.toArray Q.q rest (actM (dCall f cs :: Q.m) n e) w := by
    have := hk
    rw [show (Q.dfr (dCall f cs)).r = none from hq] at this
    exact this
  exact hk'

/-- What the body of a function with deferred calls must come to. -/
def PostD (P : Program) (fn : Func) (w0 : World) (R : Value → List Res → Prop) : Cont :=
  ⟨none, [], fun x a w => bodyPostM Fence.wide 0 P fn (fun x w' => ∃ v Rs', x = .returned v ∧ R v Rs' ∧ Sat w0 w' Rs') x a w⟩

theorem spec_ofD {f : FuncId} {fn : Func} {c : Code} {vs : List Value} {ks : List Nat} {rs : List HProp} {R : List Res → Value → List Res → Prop} {Z : List Res → List Res} (hf : P.funcs[f]? = some fn) (hb : fn.body = some c) (hn : fn.ntmps = n) (hl : Nat.ble vs.length n = true)
    [ha : ArgE 0 vs e] [hz : ZipR ks rs Z] (h : ∀ w0 F, SC P (PostD P fn w0 (R F)) n w0 c e (Z F)) : Spec P f vs ks rs R := by
  intro w0 F w hw
  refine callsIn_wide.1 (callsIn_of_wp_marks (n := 0) hf hb trivial ?_)
  rw [hn, act_args vs n (Nat.le_of_ble_eq_true hl), ha.out]
  rw [hz.out] at hw
  exact Code.wpIn_mono (fun _ _ _ q => q) (h w0 F w hw)

/-- the way out, through the deferred call -/
theorem sq_dfr {fn : Func} {R : Value → List Res → Prop} {f : FuncId} {cs : List Value} {ks : List Nat} {rs : List HProp} {A : List Res → List Res → Prop} {x : Exit} {u : FrameMode}
    (hx : (x = .ret ∧ u = .returning) ∨ ∃ c, x = .panic c ∧ u = .panicking c) (hs : SpecD P f cs u ks rs A) [hb : Body P f] [hsp : Split Rs ks rs F]
    (k : ∀ Rs', A F Rs' → ∃ v Rs'', R v Rs'' ∧ (∀ w, Sat w0 w Rs' → (results fn (act n e).tmps).run P w = .ok v w) ∧ Ent Rs' Rs'') :
    SQ ((PostD P fn w0 R).dfr (dCall f cs)) n w0 x e Rs := by
  intro w hw
  have hcall := hs w0 F w (hw.ent hsp.ent)
  have hmain : LeavesInM Fence.wide 0 P fn (act n e).tmps (fun x w' => ∃ v Rs', x = .returned v ∧ R v Rs' ∧ Sat w0 w' Rs') [dCall f cs] u w := by
    refine ⟨by rcases hx with ⟨_, rfl⟩ | ⟨c, _, rfl⟩ <;> simp, .inr ⟨fun h => by simp [Fence.wide] at h, .func f, cs.toArray, f, cs.toArray, rfl, ?_, fun _ _ => trivial, ?_⟩⟩
    · show (invoke (.fn (.func f) cs.toArray) #[]).run P w = _
      simp only [invoke]
      rw [show (#[] : Array Value) ++ cs.toArray = cs.toArray by simp]
      exact hb.out _ _
    · refine CallsDIn.mono hcall ?_
      rintro y u' w' ⟨⟨v0, rfl⟩, hu, Rs', hA, hw'⟩
      show LeavesInM _ _ _ _ _ _ [] (settle u') w'
      rw [hu]
      obtain ⟨v, Rs'', h1, h2, h3⟩ := k Rs' hA
      exact ⟨v, h2 w' hw', v, Rs'', rfl, h1, hw'.ent h3⟩
  rcases hx with ⟨rfl, rfl⟩ | ⟨c, rfl, rfl⟩
  · exact hmain
  · exact hmain
end
end Go.Gsl
namespace Go.Gsl
section
variable {P : Program} {ops : List Oper} {Q : Cont} {n : Nat} {w0 : World} {l rest : List Oper} {e : Env} {Rs Rs' F G : List Res} {ty : TypeId} {fuel : Nat} {listed : Array Bool}
theorem SpecP.ret {f : FuncId} {args : List Value} {ks : List Nat} {rs : List HProp} {A B A' : List Res → Value → List Res → Prop} (h : SpecP P f args ks rs A B) (ha : ∀ F v Rs', A F v Rs' → A' F v Rs') (hb : ∀ F v Rs', ¬ B F v Rs') : Spec P f args ks rs A' :=
  (h.mono (A' := A') (B' := B) ha (fun _ _ _ h => h)).spec hb
/-- a call that panics -/
theorem sw_callN {d : Nat} {f : FuncId} {args : List Operand} {ts : Array TypeId} {pos : String} {after : Array Edge} {vs : List Value} {ks : List Nat} {rs : List HProp} {B : List Res → Value → List Res → Prop}
    (hs : SpecP P f vs ks rs (fun _ _ _ => False) B) [hb : Body P f] [ha : EvL n e args vs] [hsp : Split Rs ks rs F]
    (kp : ∀ v Rs', B F v Rs' → SQ Q n w0 (.panic [{ v, recovered := false }]) e Rs') :
    SW P ops Q n w0 ({ dst := some d, op := .call { callee := .value (.func f), args := args.toArray, argTypes := ts }, type := ty, pos := pos, after := after, guard := none } :: rest) e Rs :=
  sw_callP hs (fun _ _ h => h.elim) kp
theorem sq_draws_pan {c : List PanicEntry} (h : SQ Q n w0 (.panic c) e Rs) : SQ (Q.draws P ops w0 G fuel listed) n w0 (.panic c) e Rs := fun w hw => h w hw
instance Go1.draws_pan {c : List PanicEntry} : Go1 (SQ (Q.draws P ops w0 G fuel listed) n w0 (.panic c) e Rs) (SQ Q n w0 (.panic c) e Rs) := ⟨sq_draws_pan⟩
end
end Go.Gsl

/- Buffers that may be nil: append, len. -/
namespace Go.Gsl
set_option linter.unusedVariables false
/-- a row of one's own, or nil -/
def bufV (n : Nat) : Option (Nat × List Value) → Value
  | none => .slice none 0 0
  | some (b, t) => .slice (some ⟨b, 0, none⟩) n (n + t.length)
/-- a resource that may be there is taken -/
class TakeO {α : Type} (Rs : List Res) (g : α → Res) (o : Option α) (F : outParam (List Res)) : Prop where
  ent : Ent Rs (oR g F o)
  back : Ent (oR g F o) Rs
instance TakeO.here {α : Type} (g : α → Res) (o : Option α) (F : List Res) : TakeO (oR g F o) g o F := ⟨Ent.refl _, Ent.refl _⟩
instance (priority := 50) TakeO.there {α : Type} (q : Res) (Rs : List Res) (g : α → Res) (o : Option α) (F : List Res) [h : TakeO Rs g o F] : TakeO (q :: Rs) g o (q :: F) :=
  ⟨(Ent.cons q h.ent).trans (oR.swap' q o), (oR.swap q o).trans (Ent.cons q h.back)⟩
theorem oR.comm {α β : Type} (g : α → Res) (g' : β → Res) (o : Option α) (o' : Option β) (F : List Res) : Ent (oR g (oR g' F o') o) (oR g' (oR g F o) o') := by
  cases o with
  | none => exact Ent.refl _
  | some a => exact (oR.swap' (g a) o')
instance (priority := 40) TakeO.oR {α β : Type} (g' : β → Res) (o' : Option β) (Rs : List Res) (g : α → Res) (o : Option α) (F : List Res) [h : TakeO Rs g o F] : TakeO (oR g' Rs o') g o (oR g' F o') :=
  ⟨(oR.ent h.ent o').trans (oR.comm g' g o' o F), (oR.comm g g' o o' F).trans (oR.ent h.back o')⟩

theorem Ent.oR {α : Type} {Rs F Rs' : List Res} {g : α → Res} {o : Option α} [t : TakeO Rs g o F] (h : Ent F Rs') : Ent Rs (oR g Rs' o) := t.ent.trans (oR.ent h o)
def vG (k : IntKind) (el : TypeId) (xs : List Int) (x : Nat × List Value) : Res := (x.1, pts x.1 (.cells (xs.map (Value.int k) ++ x.2).toArray el (0, 0)))
theorem vG_some (k : IntKind) (el : TypeId) (xs : List Int) (b : Nat) (t : List Value) (F : List Res) : oR (vG k el xs) F (some (b, t)) = (b, pts b (.cells (xs.map (Value.int k) ++ t).toArray el (0, 0))) :: F := rfl
theorem vG_none (k : IntKind) (el : TypeId) (xs : List Int) (F : List Res) : oR (vG k el xs) F none = F := rfl
instance (priority := 30) TakeO.of (Rs : List Res) (k : IntKind) (el : TypeId) (xs : List Int) (b : Nat) (t : List Value) (F : List Res) [h : Take Rs b (pts b (.cells (xs.map (Value.int k) ++ t).toArray el (0, 0))) F] : TakeO Rs (vG k el xs) (some (b, t)) F := ⟨h.ent, h.back⟩
instance (n : Nat) (o : Option (Nat × List Value)) : One (bufV n o) := ⟨by cases o <;> rfl⟩
/-- a row whose elements have several cells: nil, or a buffer of its own -/
def nV (m : Nat) : Option (Nat × Nat × List Value) → Value
  | none => .slice none 0 0
  | some (b, c, _) => .slice (some ⟨b, 0, none⟩) m c
def nG (el : TypeId) (cells : List Value) (x : Nat × Nat × List Value) : Res := (x.1, pts x.1 (.cells (cells ++ x.2.2).toArray el (0, 0)))
instance (n : Nat) (o : Option (Nat × Nat × List Value)) : One (nV n o) := ⟨by cases o <;> rfl⟩
def NOk (sz : Nat) (cells : List Value) (m : Nat) (o : Option (Nat × Nat × List Value)) : Prop := cells.length = m * sz ∧ (o = none → cells = [] ∧ m = 0) ∧ ∀ b c t, o = some (b, c, t) → m ≤ c ∧ (cells ++ t).length = c * sz
theorem nG_some (el : TypeId) (cells : List Value) (b c : Nat) (t : List Value) (F : List Res) : oR (nG el cells) F (some (b, c, t)) = (b, pts b (.cells (cells ++ t).toArray el (0, 0))) :: F := rfl
theorem nG_none (el : TypeId) (cells : List Value) (F : List Res) : oR (nG el cells) F none = F := rfl
instance (priority := 30) TakeO.ofN (Rs : List Res) (el : TypeId) (cells : List Value) (b c : Nat) (t : List Value) (F : List Res) [h : Take Rs b (pts b (.cells (cells ++ t).toArray el (0, 0))) F] : TakeO Rs (nG el cells) (some (b, c, t)) F := ⟨h.ent, h.back⟩
section
variable {P : Program} {ops : List Oper} {Q : Cont} {n : Nat} {w0 : World} {rest : List Oper} {e : Env} {Rs F : List Res} {ty : TypeId}
/-- append(s, ys...), s being nil or a row of one's own -/
theorem sw_appendV {d : Nat} {t el : TypeId} {nb : Nat} {x y : Operand} {z : Value} {kd : IntKind} {a : Option Addr} {m' c' : Nat} {pos : String} {after : Array Edge} (xs ys : List Int) (o : Option (Nat × List Value)) (ho : o = none → xs = [])
    [hx : Ev n e x (bufV xs.length o)] [hy : Ev n e y (.slice a m' c')] [he : Elem P t el 1 nb z] [hz : One z] [tk : TakeO Rs (vG kd el xs) o F]
    (hsrc : ∀ w, Sat w0 w Rs → ∀ j v, (ys.map (Value.int kd))[j]? = some v → ∃ ad, a = some ad ∧ w.cell? (ad.add j) = some v)
    (h : ys.length = m' ∧ xs.length + ys.length ≤ 9223372036854775807 ∧ (xs.length + ys.length) * nb ≤ 140737488355328)
    (k : ∀ o', (o' = none ↔ o = none ∧ ys = []) → SW P ops Q n w0 rest ((d, bufV (xs ++ ys).length o') :: e) (oR (vG kd el (xs ++ ys)) F o')) :
    SW P ops Q n w0 ({ dst := some d, op := .call { callee := .builtin .append, args := [x, y].toArray, argTypes := [t, t].toArray }, type := ty, pos := pos, after := after, guard := none } :: rest) e Rs := by
  obtain ⟨h1, h2, h3⟩ := h
  subst h1
  cases o with
  | none =>
    have hx0 := ho rfl
    subst hx0
    have hxn : Ev n e x (.slice none 0 0) := hx
    cases ys with
    | nil =>
      have hy0 : Ev n e y (.slice a 0 c') := hy
      exact sw_append_00 (a := a) (c' := c') (el := el) (fun w hw => k none ⟨fun _ => ⟨rfl, rfl⟩, fun _ => rfl⟩ w (hw.ent tk.ent))
    | cons y0 ys =>
      refine sw_append_nil (src := (y0 :: ys).map (Value.int kd)) (hy := hy) (el := el) hsrc ⟨by simp, by rw [List.length_map], by simp at h2 ⊢; omega, by simp only [List.length_nil, Nat.zero_add] at h3; omega⟩ fun b' r => ?_
      have := k (some (b', r)) (by simp)
      refine sw_ent (Ent.cons _ tk.ent) ?_
      exact this
  | some bt =>
    obtain ⟨b, r0⟩ := bt
    have hxs : Ev n e x (.slice (some ⟨b, 0, none⟩) xs.length (xs.length + r0.length)) := hx
    have tk' : Take Rs b (pts b (.cells (xs.map (Value.int kd) ++ r0).toArray el (0, 0))) F := ⟨tk.ent, tk.back⟩
    refine sw_append (src := ys.map (Value.int kd)) (hx := hxs) (el := el) (tk := tk') hsrc (one_ints _ _) ⟨by omega, by rw [List.length_append, List.length_map], by rw [List.length_map], h2, h3⟩ fun b' r => ?_
    rw [List.take_left' (by rw [List.length_map]), ← List.map_append, ← List.length_append]
    exact k (some (b', r)) (by simp)
theorem sw_appendV1 {d b7 : Nat} {t el t' : TypeId} {fr : Nat × Nat} {nb : Nat} {x y : Operand} {z : Value} {kd : IntKind} {c' : Nat} {pos : String} {after : Array Edge} {F2 : List Res} (xs : List Int) (y0 : Int) (o : Option (Nat × List Value)) (ho : o = none → xs = [])
    [hx : Ev n e x (bufV xs.length o)] [hy : Ev n e y (.slice (some ⟨b7, 0, none⟩) 1 c')] [he : Elem P t el 1 nb z] [hz : One z] [tk : TakeO Rs (vG kd el xs) o F] [tk2 : Take Rs b7 (pts b7 (.cells [Value.int kd y0].toArray t' fr)) F2]
    (h : xs.length + 1 ≤ 9223372036854775807 ∧ (xs.length + 1) * nb ≤ 140737488355328)
    (k : ∀ o', o' ≠ none → SW P ops Q n w0 rest ((d, bufV (xs ++ [y0]).length o') :: e) (oR (vG kd el (xs ++ [y0])) F o')) :
    SW P ops Q n w0 ({ dst := some d, op := .call { callee := .builtin .append, args := [x, y].toArray, argTypes := [t, t].toArray }, type := ty, pos := pos, after := after, guard := none } :: rest) e Rs := by
  refine sw_appendV (kd := kd) (hx := hx) (hy := hy) xs [y0] o ho src_pts0 ⟨rfl, h.1, h.2⟩ fun o' ho' => k o' fun h => ?_
  have := (ho'.1 h).2
  cases this
/-- s[:h] -/
theorem runop_cutV {t el : TypeId} {nb : Nat} {x y : Operand} {b : Nat} {r : List Value} {kd kh : IntKind} {i : Int} {z : Value} (xs : List Int) (K : Nat) [hx : Ev n e x (bufV xs.length (some (b, r)))] [hy : Ev n e y (.int kh i)] [he : Elem P t el 1 nb z] (h : i = K ∧ K ≤ xs.length) :
    RunOp P n w0 e Rs (.slice t x none (some y) none) ty (bufV (xs.take K).length (some (b, (xs.drop K).map (Value.int kd) ++ r))) := by
  have hx' : Ev n e x (.slice (some ⟨b, 0, none⟩) xs.length (xs.length + r.length)) := hx
  have h1 := runop_slice (P := P) (n := n) (w0 := w0) (e := e) (Rs := Rs) (ty := ty) (t := t) (x := x) (lo := none) (hi := some y) (mx := none) 0 K (xs.length + r.length) 0 (hx := hx') (by omega) ⟨rfl, h.1, rfl, by split <;> omega⟩
  have h2 : (bufV (xs.take K).length (some (b, (xs.drop K).map (Value.int kd) ++ r))) = Value.slice (some ⟨b, 0, none⟩) (K - 0) (xs.length + r.length - 0) := by
    have : (xs.take K).length = K := by rw [List.length_take]; omega
    simp only [bufV, List.length_append, List.length_map, List.length_drop, this]
    congr 1
    omega
  rw [h2]
  exact h1
def cutO (kd : IntKind) (xs : List Int) (K : Nat) (o : Option (Nat × List Value)) : Option (Nat × List Value) := o.map fun x => (x.1, (xs.drop K).map (Value.int kd) ++ x.2)
theorem runop_cutVO {t el : TypeId} {nb : Nat} {x y : Operand} {kd kh : IntKind} {i : Int} {z : Value} (xs : List Int) (K : Nat) (o : Option (Nat × List Value)) (ho : o = none → xs = []) [hx : Ev n e x (bufV xs.length o)] [hy : Ev n e y (.int kh i)] [he : Elem P t el 1 nb z] (h : i = K ∧ K ≤ xs.length) :
    RunOp P n w0 e Rs (.slice t x none (some y) none) ty (bufV (xs.take K).length (cutO kd xs K o)) := by
  cases o with
  | none =>
    have hx' : Ev n e x (.slice none 0 0) := hx
    obtain ⟨h1, h2⟩ := h
    rw [ho rfl] at h2
    simp only [List.length_nil] at h2
    obtain rfl : K = 0 := by omega
    have hi0 : i = 0 := by omega
    obtain ⟨i0, hi1, hz0, hz1, hz2⟩ := info_parts he.info
    refine ⟨fun op ho' _ w _ => ?_⟩
    unfold execOp; rw [ho']
    have h4 := (Bounds.hi1 0 0 kh i).out (by omega) P w
    have hy' : (act n e).eval y = Value.int kh i := hy.out
    subst hi0
    show _ = Result.ok (Next.value (Value.slice none 0 0)) w
    simp [Instr.sliceAt, Instr.slice, run_underlying he.und, hx'.out, hy', h4, sizeOf, typeInfo, hi1]
  | some bt =>
    obtain ⟨b, r⟩ := bt
    exact runop_cutV xs K h
theorem oR_cut (k : IntKind) (el : TypeId) (xs : List Int) (K : Nat) (o : Option (Nat × List Value)) (F : List Res) : oR (vG k el xs) F o = oR (vG k el (xs.take K)) F (cutO k xs K o) := by
  cases o with
  | none => rfl
  | some bt =>
    obtain ⟨b, r⟩ := bt
    show vG k el xs (b, r) :: F = vG k el (xs.take K) (b, _) :: F
    congr 1
    unfold vG
    simp only
    rw [← List.append_assoc, ← List.map_append, List.take_append_drop]
theorem vG_cut (k : IntKind) (el : TypeId) (xs : List Int) (K b : Nat) (r : List Value) : vG k el xs (b, r) = vG k el (xs.take K) (b, (xs.drop K).map (Value.int k) ++ r) := by
  unfold vG
  simp only
  rw [← List.append_assoc, ← List.map_append, List.take_append_drop]
/-- append(s, make([]T, k)...) -/
theorem sw_appendZV {d : Nat} {t tx el : TypeId} {nb : Nat} {x y : Operand} {kd kx : IntKind} {i : Int} {pos : String} {after : Array Edge} (xs : List Int) (m' : Nat) (o : Option (Nat × List Value)) (ho : o = none → xs = [])
    [hx : Ev n e x (bufV xs.length o)] [hy : Ev n e y (.int .i64 i)] [he : Elem P t el 1 nb (.int kd 0)] [hu : Und P tx (.int kx)] [tk : TakeO Rs (vG kd el xs) o F]
    (h : i = m' ∧ 0 < m' ∧ xs.length + m' ≤ 9223372036854775807 ∧ (xs.length + m') * nb ≤ 140737488355328)
    (k : ∀ o', o' ≠ none → SW P ops Q n w0 rest ((d, bufV (xs ++ List.replicate m' 0).length o') :: e) (oR (vG kd el (xs ++ List.replicate m' 0)) F o')) :
    SW P ops Q n w0 ({ dst := some d, op := .call { callee := .builtin .append, args := [x, y].toArray, argTypes := [t, tx].toArray }, type := ty, pos := pos, after := after, guard := none } :: rest) e Rs := by
  obtain ⟨h1, h2, h3, h4⟩ := h
  have hl : (xs ++ List.replicate m' 0).length = xs.length + m' := by rw [List.length_append, List.length_replicate]
  cases o with
  | none =>
    obtain rfl := ho rfl
    subst h1
    have hxn : Ev n e x (.slice none 0 0) := hx
    intro w hw
    obtain ⟨i0, hi, hz0, hz1, hz2⟩ := info_parts he.info
    simp only [List.length_nil, Nat.zero_add] at h3 h4
    have hr := Lib.run_append_nil_zeros (P := P) w t tx ty el i0 (.int kd 0) .i64 kx he.und hu.out hi hz0 m' h2 (by omega) (by omega) (by rw [hz2]; omega)
    refine wpM_value rfl (run_call_append rfl w hr) ?_
    rw [actM_put]
    have hzs : (Value.int kd 0).cells.size = 1 := rfl
    have hge := grownCap_ge w m' 0 el
    have h8 := k (some (w.heap.size, (Builtin.zeroCells (Value.int kd 0).cells (grownCap w m' 0 el - m')).toList)) (by simp)
    have h9 := (hw.draw (w.drawn + 1)).new (.cells (Builtin.zeroCells (Value.int kd 0).cells m' ++ Builtin.zeroCells (Value.int kd 0).cells (grownCap w m' 0 el - m')) el (0, 0))
    have e1 : m' + (Builtin.zeroCells (Value.int kd 0).cells (grownCap w m' 0 el - m')).toList.length = grownCap w m' 0 el := by rw [zeroCells_len _ _ hzs]; omega
    have e2 : Builtin.zeroCells (Value.int kd 0).cells m' ++ Builtin.zeroCells (Value.int kd 0).cells (grownCap w m' 0 el - m') = (([] ++ List.replicate m' (0 : Int)).map (Value.int kd) ++ (Builtin.zeroCells (Value.int kd 0).cells (grownCap w m' 0 el - m')).toList).toArray := by
      rw [zeroCells_rep _ (show (Value.int kd 0).oneCell' = true from rfl) m']
      simp
    have e3 : bufV ([] ++ List.replicate m' (0 : Int)).length (some (w.heap.size, (Builtin.zeroCells (Value.int kd 0).cells (grownCap w m' 0 el - m')).toList)) = .slice (some ⟨w.heap.size, 0, none⟩) m' (grownCap w m' 0 el) := by
      show Value.slice _ _ _ = _
      rw [List.nil_append, List.length_replicate, e1]
    rw [e3] at h8
    rw [e2] at h9
    rw [e2]
    exact h8 _ (h9.ent (Ent.cons _ tk.ent))
  | some bt =>
    obtain ⟨b, r0⟩ := bt
    have hxs : Ev n e x (.slice (some ⟨b, 0, none⟩) xs.length (xs.length + r0.length)) := hx
    have tk' : Take Rs b (pts b (.cells (xs.map (Value.int kd) ++ r0).toArray el (0, 0))) F := ⟨tk.ent, tk.back⟩
    refine sw_append_make m' (hx := hxs) (el := el) (tk := tk') ⟨h1, h2, by omega, by rw [List.length_append, List.length_map], h3, h4⟩ fun b' r => ?_
    rw [List.take_left' (by rw [List.length_map])]
    have := k (some (b', r)) (by simp)
    have e3 : bufV (xs ++ List.replicate m' (0 : Int)).length (some (b', r)) = .slice (some ⟨b', 0, none⟩) (xs.length + m') (xs.length + m' + r.length) := by
      show Value.slice _ _ _ = _
      rw [hl]
    rw [e3, vG_some, List.map_append, List.map_replicate] at this
    exact this
/-! elements of several cells -/
theorem sw_appendNV {d : Nat} {t el : TypeId} {nb sz : Nat} {x y : Operand} {z : Value} {b7 : Nat} {c' : Nat} {t' : TypeId} {fr : Nat × Nat} {F2 : List Res} {pos : String} {after : Array Edge} (cells src : List Value) (m : Nat) (o : Option (Nat × Nat × List Value)) (ho : NOk sz cells m o)
    [hx : Ev n e x (nV m o)] [hy : Ev n e y (.slice (some ⟨b7, 0, none⟩) 1 c')] [he : Elem P t el sz nb z] [tk : TakeO Rs (nG el cells) o F] [tk2 : Take Rs b7 (pts b7 (.cells src.toArray t' fr)) F2]
    (h1 : ∀ v ∈ src, v.oneCell' = true) (hzc : z.cells.size = sz) (hsz : 0 < sz)
    (h : src.length = sz ∧ m + 1 ≤ 9223372036854775807 ∧ (m + 1) * nb ≤ 140737488355328)
    (k : ∀ o', o' ≠ none → NOk sz (cells ++ src) (m + 1) o' → SW P ops Q n w0 rest ((d, nV (m + 1) o') :: e) (oR (nG el (cells ++ src)) F o')) :
    SW P ops Q n w0 ({ dst := some d, op := .call { callee := .builtin .append, args := [x, y].toArray, argTypes := [t, t].toArray }, type := ty, pos := pos, after := after, guard := none } :: rest) e Rs := by
  obtain ⟨h2, h3, h4⟩ := h
  obtain ⟨q1, q2, q3⟩ := ho
  cases o with
  | none =>
    obtain ⟨rfl, rfl⟩ := q2 rfl
    have hxn : Ev n e x (.slice none 0 0) := hx
    refine sw_appendN_nil (src := src) (hx := hxn) (hy := hy) (el := el) src_pts0 hzc hsz ⟨by omega, by omega, by omega, by omega⟩ fun b' r c2 hc2 hl2 => ?_
    have hk := k (some (b', c2, r)) (by simp) ⟨by rw [List.nil_append]; omega, fun h => (by cases h), fun b c t hh => by cases hh; exact ⟨hc2, hl2⟩⟩
    exact sw_ent (Ent.cons _ tk.ent) hk
  | some bt =>
    obtain ⟨b, c, r0⟩ := bt
    obtain ⟨q4, q5⟩ := q3 b c r0 rfl
    have hxs : Ev n e x (.slice (some ⟨b, 0, none⟩) m c) := hx
    have tk' : Take Rs b (pts b (.cells (cells ++ r0).toArray el (0, 0))) F := ⟨tk.ent, tk.back⟩
    refine sw_appendN (src := src) (hx := hxs) (hy := hy) (el := el) (tk := tk') src_pts0 h1 hzc hsz ⟨q4, q5, by omega, h3, h4⟩ fun b' r c2 hc2 hl2 => ?_
    rw [List.take_left' q1] at hl2 ⊢
    exact k (some (b', c2, r)) (by simp) ⟨by rw [List.length_append, q1, h2, Nat.add_mul]; omega, fun h => (by cases h), fun b c t hh => by cases hh; exact ⟨hc2, hl2⟩⟩
theorem runop_lenNV {t et : TypeId} {x : Operand} {m : Nat} (o : Option (Nat × Nat × List Value)) (ho : o = none → m = 0) [hx : Ev n e x (nV m o)] [hu : Und P t (.slice et)] : RunOp P n w0 e Rs (.call { callee := .builtin .len, args := [x].toArray, argTypes := [t].toArray }) ty (.int .i64 m) := by
  cases o with
  | none =>
    have := ho rfl
    subst this
    have hx' : Ev n e x (.slice none 0 0) := hx
    exact @RunOp.pure P n w0 e Rs _ _ _ (PureOp.sllen x none 0 0 t et)
  | some bt =>
    obtain ⟨b, c, r⟩ := bt
    have hx' : Ev n e x (.slice (some ⟨b, 0, none⟩) m c) := hx
    exact @RunOp.pure P n w0 e Rs _ _ _ (PureOp.sllen x _ m _ t et)
/-- its element -/
theorem runop_idxV {t et : TypeId} {x y : Operand} {b m : Nat} {r : List Value} {k : IntKind} {i : Int} (j : Nat) [hx : Ev n e x (bufV m (some (b, r)))] [hy : Ev n e y (.int k i)] [hu : Und P t (.slice et)] [hs : SizeOf P et 1] (h : i = j ∧ j < m) :
    RunOp P n w0 e Rs (.indexAddr t x y) ty (.pointer (some ⟨b, j, none⟩)) := by
  have hx' : Ev n e x (.slice (some ⟨b, 0, none⟩) m (m + r.length)) := hx
  exact runop_idx j h
/-- len of it -/
theorem runop_lenV {t et : TypeId} {x : Operand} {m : Nat} (o : Option (Nat × List Value)) (ho : o = none → m = 0) [hx : Ev n e x (bufV m o)] [hu : Und P t (.slice et)] : RunOp P n w0 e Rs (.call { callee := .builtin .len, args := [x].toArray, argTypes := [t].toArray }) ty (.int .i64 m) := by
  cases o with
  | none =>
    have := ho rfl
    subst this
    have hx' : Ev n e x (.slice none 0 0) := hx
    exact @RunOp.pure P n w0 e Rs _ _ _ (PureOp.sllen x none 0 0 t et)
  | some bt =>
    obtain ⟨b, r⟩ := bt
    have hx' : Ev n e x (.slice (some ⟨b, 0, none⟩) m (m + r.length)) := hx
    exact @RunOp.pure P n w0 e Rs _ _ _ (PureOp.sllen x _ m _ t et)
end
end Go.Gsl
