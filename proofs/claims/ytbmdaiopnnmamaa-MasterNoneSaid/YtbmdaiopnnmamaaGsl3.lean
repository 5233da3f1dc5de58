/- What single operations do: instances and rules. -/
import Derived.Test.YtbmdaiopnnmamaaGsl2
namespace Go.Gsl
set_option linter.unusedVariables false

/-! ### Facts on a program's types, as instances (each program gives its own) -/
class Und (P : Program) (t : TypeId) (d : outParam TypeDesc) : Prop where out : P.underlying t = some d
class NonAgg (P : Program) (t : TypeId) : Prop where out : ∀ w, (isAgg t).run P w = .ok false w
class IsAggT (P : Program) (t : TypeId) : Prop where out : ∀ w, (isAgg t).run P w = .ok true w
class SizeOf (P : Program) (t : TypeId) (s : outParam Nat) : Prop where out : ∀ w, (sizeOf t).run P w = .ok s w
class ZeroOf (P : Program) (t : TypeId) (z : outParam Value) : Prop where out : ∀ w, (zeroValue t).run P w = .ok z w

theorem run_und {P : Program} {t : TypeId} {d : TypeDesc} [h : Und P t d] (w : World) : (underlying t).run P w = .ok d w := by
  simp [underlying, h.out]

section
variable {P : Program} {ops : List Oper} {Q : Cont} {n : Nat} {w0 : World} {l rest : List Oper} {e : Env} {Rs Rs' F : List Res} {ty : TypeId}

theorem pure_of {op : Op} {v : Value} (s : Sem Value) (hs : ∀ o : Oper, o.op = op → o.type = ty → execOp (act n e).eval o = (do let x ← s; pure (.value x))) (hr : ∀ w, s.run P w = .ok v w) : PureOp P n e op ty v :=
  ⟨fun o h1 h2 w => by rw [hs o h1 h2]; simp [hr w]⟩

instance PureOp.move (x : Operand) (v : Value) [h : Ev n e x v] : PureOp P n e (.move x) ty v := ⟨fun o h1 _ w => by unfold execOp; rw [h1]; simp [h.out]⟩
instance PureOp.assign (x : Operand) (v : Value) [h : Ev n e x v] : PureOp P n e (.assign x) ty v := ⟨fun o h1 _ w => by unfold execOp; rw [h1]; simp [h.out]⟩
instance PureOp.pick_t (c a b : Operand) (v : Value) [hc : Ev n e c (.bool true)] [h : Ev n e a v] : PureOp P n e (.pick c a b) ty v := ⟨fun o h1 _ w => by unfold execOp; rw [h1]; simp [h.out, hc.out, asBool]⟩
instance PureOp.pick_f (c a b : Operand) (v : Value) [hc : Ev n e c (.bool false)] [h : Ev n e b v] : PureOp P n e (.pick c a b) ty v := ⟨fun o h1 _ w => by unfold execOp; rw [h1]; simp [h.out, hc.out, asBool]⟩
instance PureOp.nilCheck (x : Operand) (a : Addr) [h : Ev n e x (.pointer (some a))] : PureOp P n e (.nilCheck x) ty (.pointer (some a)) := ⟨fun o h1 _ w => by unfold execOp; rw [h1]; simp [h.out]⟩

class TupAt (vs : List Value) (i : Nat) (v : outParam Value) : Prop where out : vs[i]? = some v
instance TupAt.here (v : Value) (vs : List Value) : TupAt (v :: vs) 0 v := ⟨rfl⟩
instance TupAt.there (u : Value) (vs : List Value) (i : Nat) (v : Value) [h : TupAt vs i v] : TupAt (u :: vs) (i + 1) v := ⟨by simpa using h.out⟩
instance PureOp.extract (x : Operand) (vs : List Value) (i : Nat) (v : Value) [h : Ev n e x (.tuple vs.toArray)] [hi : TupAt vs i v] : PureOp P n e (.extract x i) ty v :=
  ⟨fun o h1 _ w => by unfold execOp; rw [h1]; simp [h.out, Instr.extract, hi.out]⟩

/-! integers -/
theorem int_beq (a b : Int) : (a == b) = decide (a = b) := by rw [Bool.eq_iff_iff]; simp
section ints
variable {x y : Operand} {k : IntKind} {a b : Int} {t t' : TypeId}
theorem run_binop_int {op : BinOp} {v : Value} {o : Oper} (h1 : o.op = .binOp op t x y t') [hx : Ev n e x (.int k a)] [hy : Ev n e y (.int k b)] (hop : op ≠ .shl ∧ op ≠ .shr) (w : World)
    (hr : (match op with | .add | .sub | .mul => Op.intArith op k a b | .quo | .rem => Op.intDiv op k a b | .and | .or | .xor | .andNot => Op.intBits op k a b | _ => Op.intCmp op a b).run P w = .ok v w) :
    (execOp (act n e).eval o).run P w = .ok (.value v) w := by
  unfold execOp
  rw [h1]
  have hg : (eqGuard op t x y (.int k a) (.int k b)).run P w = .ok () w := by
    unfold eqGuard; cases op <;> simp
  have hb : (binOp op t (.int k a) (.int k b)).run P w = .ok v w := by
    rw [← hr]
    cases op <;> simp_all [binOp]
  simp [hx.out, hy.out, hg, hb]

instance PureOp.lss [Ev n e x (.int k a)] [Ev n e y (.int k b)] : PureOp P n e (.binOp .lss t x y t') ty (.bool (decide (a < b))) := ⟨fun o h1 _ w => run_binop_int h1 (by simp) w rfl⟩
instance PureOp.leq [Ev n e x (.int k a)] [Ev n e y (.int k b)] : PureOp P n e (.binOp .leq t x y t') ty (.bool (decide (a ≤ b))) := ⟨fun o h1 _ w => run_binop_int h1 (by simp) w rfl⟩
instance PureOp.gtr [Ev n e x (.int k a)] [Ev n e y (.int k b)] : PureOp P n e (.binOp .gtr t x y t') ty (.bool (decide (b < a))) := ⟨fun o h1 _ w => run_binop_int h1 (by simp) w rfl⟩
instance PureOp.geq [Ev n e x (.int k a)] [Ev n e y (.int k b)] : PureOp P n e (.binOp .geq t x y t') ty (.bool (decide (b ≤ a))) := ⟨fun o h1 _ w => run_binop_int h1 (by simp) w rfl⟩
instance PureOp.eql [Ev n e x (.int k a)] [Ev n e y (.int k b)] : PureOp P n e (.binOp .eql t x y t') ty (.bool (decide (a = b))) := ⟨fun o h1 _ w => run_binop_int h1 (by simp) w (by simp [Op.intCmp, int_beq])⟩
instance PureOp.neq [Ev n e x (.int k a)] [Ev n e y (.int k b)] : PureOp P n e (.binOp .neq t x y t') ty (.bool (decide (a ≠ b))) := ⟨fun o h1 _ w => run_binop_int h1 (by simp) w (by simp [Op.intCmp, bne, int_beq])⟩
instance PureOp.add [Ev n e x (.int k a)] [Ev n e y (.int k b)] : PureOp P n e (.binOp .add t x y t') ty (.int k (k.wrap (a + b))) := ⟨fun o h1 _ w => run_binop_int h1 (by simp) w rfl⟩
instance PureOp.sub [Ev n e x (.int k a)] [Ev n e y (.int k b)] : PureOp P n e (.binOp .sub t x y t') ty (.int k (k.wrap (a - b))) := ⟨fun o h1 _ w => run_binop_int h1 (by simp) w rfl⟩
instance PureOp.mul [Ev n e x (.int k a)] [Ev n e y (.int k b)] : PureOp P n e (.binOp .mul t x y t') ty (.int k (k.wrap (a * b))) := ⟨fun o h1 _ w => run_binop_int h1 (by simp) w rfl⟩

theorem sw_arith {d : Nat} {op : BinOp} {t t' ty : TypeId} {pos : String} {after : Array Edge} (c : Int) [h : PureOp P n e (.binOp op t x y t') ty (.int k (k.wrap c))] (hc : k.wrap c = c)
    (q : SW P ops Q n w0 rest ((d, .int k c) :: e) Rs) : SW P ops Q n w0 ({ dst := some d, op := .binOp op t x y t', type := ty, pos := pos, after := after, guard := none } :: rest) e Rs := sw_op_as (by rw [hc]) q
/-- a sum, a difference, a product that does not wrap -/
theorem sw_i64 {d : Nat} {op : BinOp} {t t' ty : TypeId} {pos : String} {after : Array Edge} {c : Int} [h : PureOp P n e (.binOp op t x y t') ty (.int .i64 (IntKind.i64.wrap c))] (hc : -9223372036854775808 ≤ c ∧ c ≤ 9223372036854775807)
    (q : SW P ops Q n w0 rest ((d, .int .i64 c) :: e) Rs) : SW P ops Q n w0 ({ dst := some d, op := .binOp op t x y t', type := ty, pos := pos, after := after, guard := none } :: rest) e Rs := sw_op_as (by rw [IntWalk.i64_in _ hc]) q

/-- a division, a remainder: the divisor is not nought -/
theorem run_div {op : BinOp} {o : Oper} {t t' : TypeId} (h1 : o.op = .binOp op t x y t') [hx : Ev n e x (.int k a)] [hy : Ev n e y (.int k b)] (hb : b ≠ 0) (w : World) :
    (op = .quo → (execOp (act n e).eval o).run P w = .ok (.value (.int k (k.wrap (a.tdiv b)))) w) ∧ (op = .rem → (execOp (act n e).eval o).run P w = .ok (.value (.int k (a.tmod b))) w) := by
  constructor
  · rintro rfl; exact run_binop_int h1 (by simp) w (by simp [Op.intDiv, hb])
  · rintro rfl; exact run_binop_int h1 (by simp) w (by simp [Op.intDiv, hb])

theorem runop_rem {t t' ty : TypeId} [hx : Ev n e x (.int k a)] [hy : Ev n e y (.int k b)] (hb : b ≠ 0) : RunOp P n w0 e Rs (.binOp .rem t x y t') ty (.int k (a.tmod b)) := ⟨fun _ h1 _ w _ => (run_div h1 hb w).2 rfl⟩
theorem runop_quo {t t' ty : TypeId} [hx : Ev n e x (.int k a)] [hy : Ev n e y (.int k b)] (hb : b ≠ 0) : RunOp P n w0 e Rs (.binOp .quo t x y t') ty (.int k (k.wrap (a.tdiv b))) := ⟨fun _ h1 _ w _ => (run_div h1 hb w).1 rfl⟩
theorem sw_rem {d : Nat} {t t' ty : TypeId} {pos : String} {after : Array Edge} [hx : Ev n e x (.int k a)] [hy : Ev n e y (.int k b)] (hb : b ≠ 0)
    (q : SW P ops Q n w0 rest ((d, .int k (a.tmod b)) :: e) Rs) : SW P ops Q n w0 ({ dst := some d, op := .binOp .rem t x y t', type := ty, pos := pos, after := after, guard := none } :: rest) e Rs :=
  sw_op (h := runop_rem hb) q
theorem sw_quo {d : Nat} {t t' ty : TypeId} {pos : String} {after : Array Edge} [hx : Ev n e x (.int k a)] [hy : Ev n e y (.int k b)] (hb : b ≠ 0)
    (q : SW P ops Q n w0 rest ((d, .int k (k.wrap (a.tdiv b))) :: e) Rs) : SW P ops Q n w0 ({ dst := some d, op := .binOp .quo t x y t', type := ty, pos := pos, after := after, guard := none } :: rest) e Rs :=
  sw_op (h := runop_quo hb) q

instance PureOp.conv [h : Ev n e x (.int k a)] (d : TypeId) (k' : IntKind) [hd : Und P d (.int k')] [hs : Und P t (.int k)] : PureOp P n e (.convert t d x) ty (.int k' (k'.wrap a)) :=
  ⟨fun o h1 _ w => by unfold execOp; rw [h1]; simp [h.out, convert, run_und (t := t), run_und (t := d), Conv.intToInt]⟩
theorem sw_conv_i64 {d : Nat} {s t ty : TypeId} {pos : String} {after : Array Edge} {c : Int} [h : PureOp P n e (.convert s t x) ty (.int .i64 (IntKind.i64.wrap c))] (hc : -9223372036854775808 ≤ c ∧ c ≤ 9223372036854775807)
    (q : SW P ops Q n w0 rest ((d, .int .i64 c) :: e) Rs) : SW P ops Q n w0 ({ dst := some d, op := .convert s t x, type := ty, pos := pos, after := after, guard := none } :: rest) e Rs := sw_op_as (by rw [IntWalk.i64_in _ hc]) q

instance PureOp.min [h : Ev n e x (.int k a)] [h2 : Ev n e y (.int k b)] (ts : Array TypeId) : PureOp P n e (.call { callee := .builtin .min, args := [x, y].toArray, argTypes := ts }) ty (.int k (if b < a then b else a)) :=
  ⟨fun o h1 _ w => by unfold execOp; rw [h1]; simp [resolve, invoke, builtin, Builtin.min_, Builtin.min2, h.out, h2.out]⟩
instance PureOp.max [h : Ev n e x (.int k a)] [h2 : Ev n e y (.int k b)] (ts : Array TypeId) : PureOp P n e (.call { callee := .builtin .max, args := [x, y].toArray, argTypes := ts }) ty (.int k (if a < b then b else a)) :=
  ⟨fun o h1 _ w => by unfold execOp; rw [h1]; simp [resolve, invoke, builtin, Builtin.max_, Builtin.max2, h.out, h2.out]⟩
instance PureOp.neg [h : Ev n e x (.int k a)] : PureOp P n e (.unOp .neg t x) ty (.int k (k.wrap (0 - a))) :=
  ⟨fun o h1 _ w => by unfold execOp; rw [h1]; simp [h.out, Op.unary, Op.intArith]⟩
end ints

/-- a choice that is not decided: both ways -/
theorem sw_pick {d : Nat} {c a b : Operand} {va vb : Value} {t : Bool} {p : Prop} {pos : String} {after : Array Edge} [hc : Ev n e c (.bool t)] [ha : Ev n e a va] [hb : Ev n e b vb] [hp : BP t p]
    (k1 : p → SW P ops Q n w0 rest ((d, va) :: e) Rs) (k2 : ¬ p → SW P ops Q n w0 rest ((d, vb) :: e) Rs) : SW P ops Q n w0 ({ dst := some d, op := .pick c a b, type := ty, pos := pos, after := after, guard := none } :: rest) e Rs := by
  cases t with
  | true => exact sw_op (h := ⟨fun o h1 _ w _ => by unfold execOp; rw [h1]; simp [hc.out, ha.out, asBool]⟩) (k1 (hp.out.1 rfl))
  | false => exact sw_op (h := ⟨fun o h1 _ w _ => by unfold execOp; rw [h1]; simp [hc.out, hb.out, asBool]⟩) (k2 (fun h => by have := hp.out.2 h; cases this))

/-! bools, pointers -/
instance PureOp.not (x : Operand) (b : Bool) (t : TypeId) [h : Ev n e x (.bool b)] : PureOp P n e (.unOp .not t x) ty (.bool (!b)) := ⟨fun o h1 _ w => by unfold execOp; rw [h1]; simp [h.out, Op.unary]⟩

section eqs
variable {x y : Operand} {t t' : TypeId}
theorem run_eq_of {a b : Value} {o : Oper} {r : Bool} (h1 : o.op = .binOp .eql t x y t') [hx : Ev n e x a] [hy : Ev n e y b] (w : World) (hg : (eqGuard .eql t x y a b).run P w = .ok () w) (hb : (binOp .eql t a b).run P w = .ok (.bool r) w) :
    (execOp (act n e).eval o).run P w = .ok (.value (.bool r)) w := by
  unfold execOp; rw [h1]; simp [hx.out, hy.out, hg, hb]
theorem run_ne_of {a b : Value} {o : Oper} {r : Bool} (h1 : o.op = .binOp .neq t x y t') [hx : Ev n e x a] [hy : Ev n e y b] (w : World) (hg : (eqGuard .neq t x y a b).run P w = .ok () w) (hb : (binOp .neq t a b).run P w = .ok (.bool r) w) :
    (execOp (act n e).eval o).run P w = .ok (.value (.bool r)) w := by
  unfold execOp; rw [h1]; simp [hx.out, hy.out, hg, hb]

theorem run_equalIn_bool (d : Nat) (a b : Bool) [hu : Und P t .bool] (w : World) : (Op.equalIn (d + 1) t (.bool a) (.bool b)).run P w = .ok (a == b) w := by
  simp [Op.equalIn, run_und (t := t)]
theorem run_equalIn_ptr (d : Nat) (p : Option Addr) (u : TypeId) [hu : Und P t (.pointer u)] (w : World) : (Op.equalIn (d + 1) t (.pointer p) (.pointer none)).run P w = .ok p.isNone w := by
  cases p <;> simp [Op.equalIn, run_und (t := t)]
theorem run_eql_of {w : World} (a b : Value) {r : Bool} (hc : binOp .eql t a b = (do pure (.bool (← Op.equal t a b)))) (h : ∀ d, (Op.equalIn (d + 1) t a b).run P w = .ok r w) : (binOp .eql t a b).run P w = .ok (.bool r) w := by
  have h2 : (Op.equal t a b).run P w = .ok r w := h 9999
  rw [hc]; simp [h2]
theorem run_neq_of {w : World} (a b : Value) {r : Bool} (hc : binOp .neq t a b = (do pure (.bool (!(← Op.equal t a b))))) (h : ∀ d, (Op.equalIn (d + 1) t a b).run P w = .ok r w) : (binOp .neq t a b).run P w = .ok (.bool (!r)) w := by
  have h2 : (Op.equal t a b).run P w = .ok r w := h 9999
  rw [hc]; simp [h2]
instance PureOp.beq (a b : Bool) [hx : Ev n e x (.bool a)] [hy : Ev n e y (.bool b)] [hu : Und P t .bool] : PureOp P n e (.binOp .eql t x y t') ty (.bool (a == b)) :=
  ⟨fun o h1 _ w => run_eq_of h1 w (by simp [eqGuard]) (run_eql_of (.bool a) (.bool b) rfl fun d => run_equalIn_bool d a b w)⟩
instance PureOp.bne (a b : Bool) [hx : Ev n e x (.bool a)] [hy : Ev n e y (.bool b)] [hu : Und P t .bool] : PureOp P n e (.binOp .neq t x y t') ty (.bool (!(a == b))) :=
  ⟨fun o h1 _ w => run_ne_of h1 w (by simp [eqGuard]) (run_neq_of (.bool a) (.bool b) rfl fun d => run_equalIn_bool d a b w)⟩
theorem pure_peq_nil (p : Option Addr) (u : TypeId) [hx : Ev n e x (.pointer p)] [hy : Ev n e y (.pointer none)] [hu : Und P t (.pointer u)] : PureOp P n e (.binOp .eql t x y t') ty (.bool p.isNone) :=
  ⟨fun o h1 _ w => run_eq_of h1 w (by simp [eqGuard]) (run_eql_of (.pointer p) (.pointer none) rfl fun d => run_equalIn_ptr d p u w)⟩
theorem pure_pne_nil (p : Option Addr) (u : TypeId) [hx : Ev n e x (.pointer p)] [hy : Ev n e y (.pointer none)] [hu : Und P t (.pointer u)] : PureOp P n e (.binOp .neq t x y t') ty (.bool (!p.isNone)) :=
  ⟨fun o h1 _ w => run_ne_of h1 w (by simp [eqGuard]) (run_neq_of (.pointer p) (.pointer none) rfl fun d => run_equalIn_ptr d p u w)⟩
instance PureOp.peq_none (u : TypeId) [hx : Ev n e x (.pointer none)] [hy : Ev n e y (.pointer none)] [hu : Und P t (.pointer u)] : PureOp P n e (.binOp .eql t x y t') ty (.bool true) := pure_peq_nil none u
instance PureOp.peq_some (a : Addr) (u : TypeId) [hx : Ev n e x (.pointer (some a))] [hy : Ev n e y (.pointer none)] [hu : Und P t (.pointer u)] : PureOp P n e (.binOp .eql t x y t') ty (.bool false) := pure_peq_nil (some a) u
instance PureOp.pne_none (u : TypeId) [hx : Ev n e x (.pointer none)] [hy : Ev n e y (.pointer none)] [hu : Und P t (.pointer u)] : PureOp P n e (.binOp .neq t x y t') ty (.bool false) := pure_pne_nil none u
instance PureOp.pne_some (a : Addr) (u : TypeId) [hx : Ev n e x (.pointer (some a))] [hy : Ev n e y (.pointer none)] [hu : Und P t (.pointer u)] : PureOp P n e (.binOp .neq t x y t') ty (.bool true) := pure_pne_nil (some a) u
end eqs

/-- Tests on closed terms. -/
instance BP.none {α : Type} : BP (none : Option α).isNone True := ⟨by simp⟩
instance BP.some {α : Type} (a : α) : BP (some a).isNone False := ⟨by simp⟩
instance BP.beq (a b : Bool) (p q : Prop) [ha : BP a p] [hb : BP b q] : BP (a == b) (p ↔ q) := ⟨by rw [← ha.out, ← hb.out]; cases a <;> cases b <;> simp⟩
instance BP.str (a b : ByteArray) : BP (a.toList == b.toList) (a = b) := ⟨by
  rw [ByteArray.toList_eq, ByteArray.toList_eq]
  constructor
  · intro h
    have h2 : a.data.toList = b.data.toList := by simpa using h
    obtain ⟨⟨x⟩⟩ := a
    obtain ⟨⟨y⟩⟩ := b
    simp at h2
    rw [h2]
  · rintro rfl; simp⟩
instance BP.t : BP true True := ⟨by simp⟩
instance BP.f : BP false False := ⟨by simp⟩

/-! strings -/
section strs
variable {x y : Operand} {t t' : TypeId} {a b : ByteArray}
instance PureOp.seq [hx : Ev n e x (.string a)] [hy : Ev n e y (.string b)] : PureOp P n e (.binOp .eql t x y t') ty (.bool (a.toList == b.toList)) :=
  ⟨fun o h1 _ w => run_eq_of h1 w (by simp [eqGuard]) rfl⟩
instance PureOp.sne [hx : Ev n e x (.string a)] [hy : Ev n e y (.string b)] : PureOp P n e (.binOp .neq t x y t') ty (.bool (!(a.toList == b.toList))) :=
  ⟨fun o h1 _ w => run_ne_of h1 w (by simp [eqGuard]) rfl⟩
instance PureOp.slen [hx : Ev n e x (.string a)] [hu : Und P t .string] : PureOp P n e (.call { callee := .builtin .len, args := [x].toArray, argTypes := [t].toArray }) ty (.int .i64 a.size) :=
  ⟨fun o h1 _ w => by unfold execOp; rw [h1]; simp [resolve, invoke, builtin, Builtin.len_, hx.out, run_und (t := t), goInt]⟩
end strs

/-! ### structs in memory -/
class Fld (P : Program) (s : TypeId) (f : Nat) (off : outParam Nat) : Prop where out : ∀ a w, (Instr.fieldAt s (.pointer (some a)) f).run P w = .ok (.pointer (some (a.add off))) w
theorem Fld.of {s : TypeId} {f off t : Nat} {fs : Array Field} {z : Nat} (hu : P.underlying s = some (.struct fs)) (hf : (fs[f]?).map (fun g => (g.offset, g.type)) = some (off, t)) (hs : ∀ w, (sizeOf t).run P w = .ok (z + 1) w) : Fld P s f off := by
  obtain ⟨g, hg, he⟩ := Option.map_eq_some_iff.1 hf
  simp only [Prod.mk.injEq] at he
  obtain ⟨rfl, rfl⟩ := he
  exact ⟨fun a w => by simp [Instr.fieldAt, underlying, hu, hg, Instr.sureAddr, fieldPlace, hs]⟩

instance PureOp.field0 (s : TypeId) (x : Operand) (f b off : Nat) [h : Ev n e x (.pointer (some ⟨b, 0, none⟩))] [hf : Fld P s f off] : PureOp P n e (.fieldAddr s x f) ty (.pointer (some ⟨b, off, none⟩)) :=
  ⟨fun o h1 _ w => by
    unfold execOp; rw [h1]
    simp only [h.out, Sem.run_bind, hf.out, Result.andThen_ok, Sem.run_pure]
    simp [Addr.add]; exact fun h => h.symm⟩
instance (priority := 50) PureOp.fieldN (s : TypeId) (x : Operand) (f b k off : Nat) [h : Ev n e x (.pointer (some ⟨b, k, none⟩))] [hf : Fld P s f off] : PureOp P n e (.fieldAddr s x f) ty (.pointer (some ⟨b, k + off, none⟩)) :=
  ⟨fun o h1 _ w => by
    unfold execOp; rw [h1]
    simp only [h.out, Sem.run_bind, hf.out, Result.andThen_ok, Sem.run_pure]
    simp [Addr.add]⟩

class CellAt (cs : Array Value) (i : Nat) (v : outParam Value) : Prop where out : cs[i]? = some v
instance CellAt.lit (l : List Value) (i : Nat) (v : Value) [h : TupAt l i v] : CellAt l.toArray i v := ⟨by simpa using h.out⟩

theorem cell_of {w : World} {b i : Nat} {cs : Array Value} {t : TypeId} {fr : Nat × Nat} {v : Value} (hb : w.heap[b]? = some (.cells cs t fr)) (hc : cs[i]? = some v) : w.cell? ⟨b, i, none⟩ = some v := by
  simp [World.cell?, hb, hc]

instance RunOp.load (t : TypeId) (x : Operand) (b i : Nat) (cs : Array Value) (ty' : TypeId) (fr : Nat × Nat) (v : Value) (F : List Res) [h : Ev n e x (.pointer (some ⟨b, i, none⟩))] [ht : Take Rs b (pts b (.cells cs ty' fr)) F] [hn : NonAgg P t] [hc : CellAt cs i v] :
    RunOp P n w0 e Rs (.load t x) ty v :=
  ⟨fun o h1 _ w hw => by
    unfold execOp; rw [h1]
    have := cell_of (hw.get ht) hc.out
    simp [h.out, Instr.loadAt, Instr.sureAddr, loadVar, hn.out, this]⟩

/-- a load, the cell given by hand -/
theorem runop_load {t : TypeId} {x : Operand} {a : Addr} {v : Value} [h : Ev n e x (.pointer (some a))] [hn : NonAgg P t] (hc : ∀ w, Sat w0 w Rs → w.cell? a = some v) : RunOp P n w0 e Rs (.load t x) ty v :=
  ⟨fun o h1 _ w hw => by
    unfold execOp; rw [h1]
    simp [h.out, Instr.loadAt, Instr.sureAddr, loadVar, hn.out, hc w hw]⟩

/-! ### stores -/
class One (v : Value) : Prop where out : v.oneCell' = true
instance (b : Bool) : One (.bool b) := ⟨rfl⟩
instance (k : IntKind) (i : Int) : One (.int k i) := ⟨rfl⟩
instance (s : ByteArray) : One (.string s) := ⟨rfl⟩
instance (p : Option Addr) : One (.pointer p) := ⟨rfl⟩
instance (a : Option Addr) (i j : Nat) : One (.slice a i j) := ⟨rfl⟩
instance (r : Option Nat) : One (.map r) := ⟨rfl⟩
instance (r : Option Nat) : One (.chan r) := ⟨rfl⟩
instance (f : Fn) (a b : Array Value) : One (.func f a b) := ⟨rfl⟩
instance : One .nilFunc := ⟨rfl⟩
instance (t : TypeId) (v : Value) : One (.iface t v) := ⟨rfl⟩
instance : One .nilIface := ⟨rfl⟩

theorem cells_one {v : Value} (h : v.oneCell' = true) : v.cells = #[v] := by cases v <;> first | rfl | cases h

theorem setCell_eq {w : World} {b i : Nat} {cs : Array Value} {t : TypeId} {fr : Nat × Nat} {v : Value} (hb : w.heap[b]? = some (.cells cs t fr)) :
    w.setCell ⟨b, i, none⟩ v = { w with heap := w.heap.setIfInBounds b (.cells (cs.setIfInBounds i v) t fr) } := by
  unfold World.setCell
  congr 1
  apply Array.ext_getElem?
  intro j
  rw [Array.getElem?_modify, Array.getElem?_setIfInBounds]
  by_cases hj : b = j
  · subst hj
    obtain ⟨hlt, hg⟩ := Array.getElem?_eq_some_iff.1 hb
    simp [hlt, hg]
  · simp [hj]

class SetAt (l : List Value) (i : Nat) (v : Value) (l' : outParam (List Value)) : Prop where out : i < l.length ∧ l.set i v = l'
instance SetAt.here (u v : Value) (l : List Value) : SetAt (u :: l) 0 v (v :: l) := ⟨by simp⟩
instance SetAt.there (u v : Value) (l l' : List Value) (i : Nat) [h : SetAt l i v l'] : SetAt (u :: l) (i + 1) v (u :: l') := ⟨by simpa using h.out⟩

theorem run_store_cell {t : TypeId} {x y : Operand} {b i : Nat} {cs : Array Value} {ty' : TypeId} {v : Value} {o : Oper} (h1 : o.op = .store t x y) [h : Ev n e x (.pointer (some ⟨b, i, none⟩))] [h2 : Ev n e y v] [hv : One v] [hs : SizeOf P t 1] {w : World}
    (hb : w.heap[b]? = some (.cells cs ty' (0, 0))) (hi : i < cs.size) : (execOp (act n e).eval o).run P w = .ok .skip { w with heap := w.heap.setIfInBounds b (.cells (cs.setIfInBounds i v) ty' (0, 0)) } := by
  unfold execOp; rw [h1]
  have hc : w.cell? ⟨b, i, none⟩ = some cs[i] := cell_of hb (by simp [hi])
  have hf : w.frozen? ⟨b, i, none⟩ = false := by simp [World.frozen?, hb]
  simp [h.out, h2.out, Instr.storeAt, Instr.sureAddr, storeVar, hs.out, cells_one hv.out, storeCells, Addr.add, run_store P w ⟨b, i, none⟩ v .plain hv.out, hc, hf, setCell_eq hb]

theorem sw_store {t : TypeId} {x y : Operand} {b i : Nat} {l l' : List Value} {ty' : TypeId} {v : Value} {pos : String} {after : Array Edge} [h : Ev n e x (.pointer (some ⟨b, i, none⟩))] [h2 : Ev n e y v] [hv : One v] [hs : SizeOf P t 1]
    [ht : Take Rs b (pts b (.cells l.toArray ty' (0, 0))) F] [hl : SetAt l i v l'] (k : SW P ops Q n w0 rest e ((b, pts b (.cells l'.toArray ty' (0, 0))) :: F)) :
    SW P ops Q n w0 ({ dst := none, op := .store t x y, type := ty, pos := pos, after := after, guard := none } :: rest) e Rs := by
  intro w hw
  refine wpM_skip rfl (run_store_cell (b := b) (i := i) (v := v) rfl (hw.get ht) (by simpa using hl.out.1)) (k _ ?_)
  have h3 : l.toArray.setIfInBounds i v = l'.toArray := by simp [hl.out.2]
  rw [h3]
  exact hw.set ht (.cells l'.toArray ty' (0, 0))

/-- a new variable with a value -/
class Cells (v : Value) (cs : outParam (List Value)) : Prop where out : v.cells = cs.toArray
instance (b : Bool) : Cells (.bool b) [.bool b] := ⟨rfl⟩
instance (k : IntKind) (i : Int) : Cells (.int k i) [.int k i] := ⟨rfl⟩
instance (s : ByteArray) : Cells (.string s) [.string s] := ⟨rfl⟩
instance (p : Option Addr) : Cells (.pointer p) [.pointer p] := ⟨rfl⟩
instance (a : Option Addr) (i j : Nat) : Cells (.slice a i j) [.slice a i j] := ⟨rfl⟩
instance (r : Option Nat) : Cells (.map r) [.map r] := ⟨rfl⟩
instance (f : Fn) (a b : Array Value) : Cells (.func f a b) [.func f a b] := ⟨rfl⟩
instance : Cells .nilFunc [.nilFunc] := ⟨rfl⟩
instance (t : TypeId) (v : Value) : Cells (.iface t v) [.iface t v] := ⟨rfl⟩
instance : Cells .nilIface [.nilIface] := ⟨rfl⟩
instance (l : List Value) : Cells (.agg l.toArray) l := ⟨rfl⟩

theorem sw_new {d : Nat} {op : Op} {v : Value} {cs : List Value} {t : TypeId} {pos : String} {after : Array Edge} [hc : Cells v cs] (hr : ∀ o : Oper, o.op = op → ∀ w, (execOp (act n e).eval o).run P w = .ok (.value (.pointer (some ⟨w.heap.size, 0, none⟩))) { w with heap := w.heap.push (.cells v.cells t) })
    (k : ∀ b, SW P ops Q n w0 rest ((d, .pointer (some ⟨b, 0, none⟩)) :: e) ((b, pts b (.cells cs.toArray t (0, 0))) :: Rs)) :
    SW P ops Q n w0 ({ dst := some d, op := op, type := ty, pos := pos, after := after, guard := none } :: rest) e Rs := by
  intro w hw
  refine wpM_value rfl (hr _ rfl w) ?_
  rw [actM_put, hc.out]
  exact k w.heap.size _ (hw.new _)

theorem sw_box {d : Nat} {x : Operand} {v : Value} {cs : List Value} {t : TypeId} {pos : String} {after : Array Edge} [h : Ev n e x v] [hc : Cells v cs]
    (k : ∀ b, SW P ops Q n w0 rest ((d, .pointer (some ⟨b, 0, none⟩)) :: e) ((b, pts b (.cells cs.toArray t (0, 0))) :: Rs)) :
    SW P ops Q n w0 ({ dst := some d, op := .box t x, type := ty, pos := pos, after := after, guard := none } :: rest) e Rs :=
  sw_new (v := v) (fun o h1 w => by unfold execOp; rw [h1]; simp [h.out, Instr.box, newVar, newRow]) k

theorem sw_alloc {d : Nat} {v : Value} {cs : List Value} {t : TypeId} {pos : String} {after : Array Edge} [h : ZeroOf P t v] [hc : Cells v cs]
    (k : ∀ b, SW P ops Q n w0 rest ((d, .pointer (some ⟨b, 0, none⟩)) :: e) ((b, pts b (.cells cs.toArray t (0, 0))) :: Rs)) :
    SW P ops Q n w0 ({ dst := some d, op := .alloc t, type := ty, pos := pos, after := after, guard := none } :: rest) e Rs :=
  sw_new (v := v) (fun o h1 w => by unfold execOp; rw [h1]; simp [h.out, Instr.alloc, newVar, newRow]) k

/-! struct values -/
class PartsL (n : Nat) (e : Env) (xs : List (Nat × Operand)) (vs : outParam (List (Nat × Value))) : Prop where out : xs.map (fun p => (p.1, (act n e).eval p.2)) = vs
instance PartsL.nil : PartsL n e [] [] := ⟨rfl⟩
instance PartsL.cons (i : Nat) (x : Operand) (xs : List (Nat × Operand)) (v : Value) (vs : List (Nat × Value)) [h : Ev n e x v] [h2 : PartsL n e xs vs] : PartsL n e ((i, x) :: xs) ((i, v) :: vs) :=
  ⟨by simp [h.out, h2.out]⟩

/-- the cells' places in a struct -/
class Places (P : Program) (t : TypeId) (pl : outParam (List (Nat × Nat))) : Prop where
  out : ∃ fs : Array Field, P.underlying t = some (.struct fs) ∧ ∀ w, (fs.mapM fun f => Prod.mk f.offset <$> sizeOf f.type : Sem (Array (Nat × Nat))).run P w = .ok pl.toArray w

theorem runop_build {t : TypeId} {xs : List (Nat × Operand)} {vs : List (Nat × Value)} {z : Value} {pl : List (Nat × Nat)} {cs : List Value} [hx : PartsL n e xs vs] [hz : ZeroOf P t z] [hp : Places P t pl] (hf : Instr.fill (fun i => pl[i]?) z.cells vs = some cs.toArray) :
    PureOp P n e (.build t xs.toArray) ty (.agg cs.toArray) :=
  ⟨fun o h1 _ w => by
    unfold execOp; rw [h1]
    obtain ⟨fs, hu, hm⟩ := hp.out
    have h2 : (List.map (fun x : Nat × Operand => match x with | (i, x) => (i, (act n e).eval x)) xs) = vs := by rw [← hx.out]
    simp [Instr.build, hz.out, underlying, hu, hm, h2, hf]⟩

theorem sw_build {d : Nat} {t : TypeId} {xs : List (Nat × Operand)} {vs : List (Nat × Value)} {z : Value} {pl : List (Nat × Nat)} {pos : String} {after : Array Edge} [hx : PartsL n e xs vs] [hz : ZeroOf P t z] [hp : Places P t pl] (cs : List Value) (hf : Instr.fill (fun i => pl[i]?) z.cells vs = some cs.toArray)
    (k : SW P ops Q n w0 rest ((d, .agg cs.toArray) :: e) Rs) : SW P ops Q n w0 ({ dst := some d, op := .build t xs.toArray, type := ty, pos := pos, after := after, guard := none } :: rest) e Rs :=
  have h1 : PureOp P n e (.build t xs.toArray) ty (.agg cs.toArray) := runop_build (ty := ty) hf
  sw_op (h := @RunOp.pure P n w0 e Rs _ _ _ h1) k

end
end Go.Gsl
