/- Bits; the make of bytes without noughts; more conversions. -/
import Derived.Test.YtbmdaiopnnmamaaGsl11
import Derived.Lib.MakeNoZero
namespace Go.Gsl
set_option linter.unusedVariables false

section
variable {P : Program} {ops : List Oper} {Q : Cont} {n : Nat} {w0 : World} {l rest : List Oper} {e : Env} {Rs Rs' F : List Res} {ty : TypeId}

theorem wrap_u64 {c : Int} (h : 0 ≤ c ∧ c ≤ 18446744073709551615) : IntKind.u64.wrap c = c := by
  have : IntKind.u64.wrap c = c % 18446744073709551616 := by simp [IntKind.wrap, IntKind.bits, IntKind.signed]
  omega
theorem wrap_u32 {c : Int} (h : 0 ≤ c ∧ c ≤ 4294967295) : IntKind.u32.wrap c = c := by
  have : IntKind.u32.wrap c = c % 4294967296 := by simp [IntKind.wrap, IntKind.bits, IntKind.signed]
  omega
theorem wrap_u16 {c : Int} (h : 0 ≤ c ∧ c ≤ 65535) : IntKind.u16.wrap c = c := by
  have : IntKind.u16.wrap c = c % 65536 := by simp [IntKind.wrap, IntKind.bits, IntKind.signed]
  omega
theorem wrap_u8 {c : Int} (h : 0 ≤ c ∧ c ≤ 255) : IntKind.u8.wrap c = c := by
  have : IntKind.u8.wrap c = c % 256 := by simp [IntKind.wrap, IntKind.bits, IntKind.signed]
  omega
/-- a number in its range stays -/
class InK (k : IntKind) (c : Int) (ok : outParam Prop) : Prop where out : ok → k.wrap c = c
instance InK.i64 (c : Int) : InK .i64 c (-9223372036854775808 ≤ c ∧ c ≤ 9223372036854775807) := ⟨IntWalk.i64_in c⟩
instance InK.u64 (c : Int) : InK .u64 c (0 ≤ c ∧ c ≤ 18446744073709551615) := ⟨wrap_u64⟩
instance InK.u32 (c : Int) : InK .u32 c (0 ≤ c ∧ c ≤ 4294967295) := ⟨wrap_u32⟩
instance InK.u16 (c : Int) : InK .u16 c (0 ≤ c ∧ c ≤ 65535) := ⟨wrap_u16⟩
instance InK.u8 (c : Int) : InK .u8 c (0 ≤ c ∧ c ≤ 255) := ⟨wrap_u8⟩
/-- an operation whose number stays in its range -/
theorem sw_in {d : Nat} {op : Op} {pos : String} {after : Array Edge} {k : IntKind} {c : Int} {ok : Prop} [h : PureOp P n e op ty (.int k (k.wrap c))] [hk : InK k c ok] (hc : ok)
    (q : SW P ops Q n w0 rest ((d, .int k c) :: e) Rs) : SW P ops Q n w0 ({ dst := some d, op := op, type := ty, pos := pos, after := after, guard := none } :: rest) e Rs :=
  sw_op_as (h := RunOp.pure op ty _) (by rw [hk.out hc]) q

def iand (k : IntKind) (a b : Int) : Int := k.wrap ((BitVec.ofInt k.bits a &&& BitVec.ofInt k.bits b).toNat)
def ior (k : IntKind) (a b : Int) : Int := k.wrap ((BitVec.ofInt k.bits a ||| BitVec.ofInt k.bits b).toNat)
def ixor (k : IntKind) (a b : Int) : Int := k.wrap ((BitVec.ofInt k.bits a ^^^ BitVec.ofInt k.bits b).toNat)
def iandNot (k : IntKind) (a b : Int) : Int := k.wrap ((BitVec.ofInt k.bits a &&& ~~~ BitVec.ofInt k.bits b).toNat)

section
variable {x y : Operand} {k k' : IntKind} {a b : Int} {t t' : TypeId}
instance PureOp.iand [Ev n e x (.int k a)] [Ev n e y (.int k b)] : PureOp P n e (.binOp .and t x y t') ty (.int k (iand k a b)) := ⟨fun o h1 _ w => run_binop_int h1 (by simp) w rfl⟩
instance PureOp.ior [Ev n e x (.int k a)] [Ev n e y (.int k b)] : PureOp P n e (.binOp .or t x y t') ty (.int k (ior k a b)) := ⟨fun o h1 _ w => run_binop_int h1 (by simp) w rfl⟩
instance PureOp.ixor [Ev n e x (.int k a)] [Ev n e y (.int k b)] : PureOp P n e (.binOp .xor t x y t') ty (.int k (ixor k a b)) := ⟨fun o h1 _ w => run_binop_int h1 (by simp) w rfl⟩
instance PureOp.iandNot [Ev n e x (.int k a)] [Ev n e y (.int k b)] : PureOp P n e (.binOp .andNot t x y t') ty (.int k (iandNot k a b)) := ⟨fun o h1 _ w => run_binop_int h1 (by simp) w rfl⟩

theorem run_shift {op : BinOp} {v : Value} {o : Oper} (h1 : o.op = .binOp op t x y t') [hx : Ev n e x (.int k a)] [hy : Ev n e y (.int k' b)] (hop : op = .shl ∨ op = .shr) (w : World)
    (hr : (Op.shift op k a k' b).run P w = .ok v w) : (execOp (act n e).eval o).run P w = .ok (.value v) w := by
  unfold execOp
  rw [h1]
  have hg : (eqGuard op t x y (.int k a) (.int k' b)).run P w = .ok () w := by
    unfold eqGuard; rcases hop with rfl | rfl <;> simp
  have hb : (binOp op t (.int k a) (.int k' b)).run P w = .ok v w := by
    rw [← hr]
    rcases hop with rfl | rfl <;> simp [binOp]
  simp [hx.out, hy.out, hg, hb]

theorem sw_shr {d : Nat} {pos : String} {after : Array Edge} [hx : Ev n e x (.int k a)] [hy : Ev n e y (.int k' b)] (hb : 0 ≤ b)
    (q : SW P ops Q n w0 rest ((d, .int k (a.fdiv (2 ^ min b.toNat k.bits))) :: e) Rs) : SW P ops Q n w0 ({ dst := some d, op := .binOp .shr t x y t', type := ty, pos := pos, after := after, guard := none } :: rest) e Rs :=
  sw_op (h := ⟨fun o h1 _ w _ => run_shift h1 (.inr rfl) w (by simp [Op.shift, show ¬ b < 0 by omega])⟩) q
theorem sw_shl {d : Nat} {pos : String} {after : Array Edge} [hx : Ev n e x (.int k a)] [hy : Ev n e y (.int k' b)] (hb : 0 ≤ b)
    (q : SW P ops Q n w0 rest ((d, .int k (k.wrap (a * 2 ^ min b.toNat k.bits))) :: e) Rs) : SW P ops Q n w0 ({ dst := some d, op := .binOp .shl t x y t', type := ty, pos := pos, after := after, guard := none } :: rest) e Rs :=
  sw_op (h := ⟨fun o h1 _ w _ => run_shift h1 (.inl rfl) w (by simp [Op.shift, show ¬ b < 0 by omega])⟩) q
end

theorem src_of_pts {b off : Nat} {src cs : List Value} {t : TypeId} {fr : Nat × Nat} [tk : Take Rs b (pts b (.cells cs.toArray t fr)) F] (h : ∀ j v, src[j]? = some v → cs[off + j]? = some v) : ∀ w, Sat w0 w Rs → ∀ j v, src[j]? = some v → ∃ ad, some (⟨b, off, none⟩ : Addr) = some ad ∧ w.cell? (ad.add j) = some v :=
  fun w hw j v hj => ⟨_, rfl, cell_row (hw.get tk) (h j v hj)⟩

/-- an element that a resource lets be read -/
theorem sw_load_rd {d : Nat} {t : TypeId} {x : Operand} {b o o' : Nat} {xs : List Value} {r : HProp} (k i : Nat) (v : Value) {pos : String} {after : Array Edge} [hx : Ev n e x (.pointer (some ⟨b, o', none⟩))] [hn : NonAgg P t] [tk : Take Rs k r F] (hr : Reads r (some ⟨b, o, none⟩) xs) (hv : xs[i]? = some v) (ho : o' = o + i)
    (q : SW P ops Q n w0 rest ((d, v) :: e) Rs) : SW P ops Q n w0 ({ dst := some d, op := .load t x, type := ty, pos := pos, after := after, guard := none } :: rest) e Rs :=
  sw_op (h := runop_load (a := ⟨b, o', none⟩) fun w hw => by
    obtain ⟨ad, h1, h2⟩ := hr.sat (k := k) hw i v hv
    cases h1
    rw [add_plain] at h2
    rw [ho]; exact h2) q

theorem runop_idx {t et : TypeId} {x y : Operand} {b m c : Nat} {k : IntKind} {i : Int} (j : Nat) [hx : Ev n e x (.slice (some ⟨b, 0, none⟩) m c)] [hy : Ev n e y (.int k i)] [hu : Und P t (.slice et)] [hs : SizeOf P et 1] (h : i = j ∧ j < m) :
    RunOp P n w0 e Rs (.indexAddr t x y) ty (.pointer (some ⟨b, j, none⟩)) := by
  have h1 : PureOp P n e (.indexAddr t x y) ty (.pointer (some ⟨b, 0 + i.toNat * 1, none⟩)) := pure_index (by omega)
  rw [show 0 + i.toNat * 1 = j by omega] at h1
  exact @RunOp.pure P n w0 e Rs _ _ _ h1

/-! ### bytealg.MakeNoZero -/
class Mnz (P : Program) (f : FuncId) (pt t el : outParam TypeId) : Prop where
  und : P.underlying t = some (.slice el)
  out : ∀ args w, (callFunc f args).run P w = ((Extern.BytealgMakeNoZero.makeNoZero #[pt] #[t] args).run P w).andThen fun v w' => .ok (.value v) w'

theorem sw_mnz {d : Nat} {f : FuncId} {pt t el : TypeId} {x : Operand} {ts : Array TypeId} {pos : String} {after : Array Edge} {i : Int} (m : Nat) [hm : Mnz P f pt t el] [hx : Ev n e x (.int .i64 i)] (hi : i = m) (h : m ≤ 281474976710656)
    (k : ∀ b (cs : List Value), m ≤ cs.length → SW P ops Q n w0 rest ((d, .slice (some ⟨b, 0, none⟩) m cs.length) :: e) ((b, pts b (.cells cs.toArray el (0, 0))) :: Rs)) :
    SW P ops Q n w0 ({ dst := some d, op := .call { callee := .value (.func f), args := [x].toArray, argTypes := ts }, type := ty, pos := pos, after := after, guard := none } :: rest) e Rs := by
  subst hi
  intro w hw
  obtain ⟨cs, hr, hge, _⟩ := Lib.run_makeNoZero (P := P) w #[pt] t el hm.und m h
  have h1 : (execOp (act n e).eval { dst := some d, op := .call { callee := .value (.func f), args := [x].toArray, argTypes := ts }, type := ty, pos := pos, after := after, guard := none }).run P w = .ok (.value (.slice (some ⟨w.heap.size, 0, none⟩) m cs.size)) (w.drew.drew.alloc (.cells cs el)) := by
    rw [run_call_func (vs := [.int .i64 m]) rfl (by simp [hx.out]), hm.out, hr]
    rfl
  refine wpM_value rfl h1 ?_
  rw [actM_put]
  have := k w.heap.size cs.toList (by simpa using hge)
  exact this _ (((hw.draw (w.drawn + 1)).draw (w.drawn + 1 + 1)).new (.cells cs el (0, 0)))

/-! ### one of two -/
def hor (A B : HProp) : HProp := fun h => A h ∨ B h
theorem sat_or {k : Nat} {A B : HProp} {w : World} (h : Sat w0 w ((k, hor A B) :: F)) : Sat w0 w ((k, A) :: F) ∨ Sat w0 w ((k, B) :: F) := by
  obtain ⟨h1, z, hf, x, y, hd, hj, hr, hF⟩ := h
  rcases hr with hr | hr
  · exact .inl ⟨h1, z, hf, x, y, hd, hj, hr, hF⟩
  · exact .inr ⟨h1, z, hf, x, y, hd, hj, hr, hF⟩
theorem sc_or {c : Code} (k : Nat) {A B : HProp} [t : Take Rs k (hor A B) F] (h1 : SC P Q n w0 c e ((k, A) :: F)) (h2 : SC P Q n w0 c e ((k, B) :: F)) : SC P Q n w0 c e Rs := fun w hw => by
  rcases sat_or (hw.ent t.ent) with h | h
  · exact h1 w h
  · exact h2 w h
theorem sw_or (k : Nat) {A B : HProp} [t : Take Rs k (hor A B) F] (h1 : SW P ops Q n w0 l e ((k, A) :: F)) (h2 : SW P ops Q n w0 l e ((k, B) :: F)) : SW P ops Q n w0 l e Rs := fun w hw => by
  rcases sat_or (hw.ent t.ent) with h | h
  · exact h1 w h
  · exact h2 w h
theorem sq_or {x : Exit} (k : Nat) {A B : HProp} [t : Take Rs k (hor A B) F] (h1 : SQ Q n w0 x e ((k, A) :: F)) (h2 : SQ Q n w0 x e ((k, B) :: F)) : SQ Q n w0 x e Rs := fun w hw => by
  rcases sat_or (hw.ent t.ent) with h | h
  · exact h1 w h
  · exact h2 w h
/-- a fact beside a resource -/
theorem sc_and {c : Code} (k : Nat) {p : Prop} {A : HProp} [t : Take Rs k (hand p A) F] (h : p → SC P Q n w0 c e ((k, A) :: F)) : SC P Q n w0 c e Rs := fun w hw => by
  obtain ⟨_, hp, h2⟩ := (hw.ent t.ent).opn (α := Unit) (φ := fun _ => p) (p := fun _ => A) fun y hy => ⟨(), hy⟩
  exact h hp w h2
theorem sq_and {x : Exit} (k : Nat) {p : Prop} {A : HProp} [t : Take Rs k (hand p A) F] (h : p → SQ Q n w0 x e ((k, A) :: F)) : SQ Q n w0 x e Rs := fun w hw => by
  obtain ⟨_, hp, h2⟩ := (hw.ent t.ent).opn (α := Unit) (φ := fun _ => p) (p := fun _ => A) fun y hy => ⟨(), hy⟩
  exact h hp w h2
theorem sw_and (k : Nat) {p : Prop} {A : HProp} [t : Take Rs k (hand p A) F] (h : p → SW P ops Q n w0 l e ((k, A) :: F)) : SW P ops Q n w0 l e Rs := fun w hw => by
  obtain ⟨_, hp, h2⟩ := (hw.ent t.ent).opn (α := Unit) (φ := fun _ => p) (p := fun _ => A) fun y hy => ⟨(), hy⟩
  exact h hp w h2
theorem sw_hall (k : Nat) {L : List Res} [t : Take Rs k (hall L) F] (h : SW P ops Q n w0 l e (L ++ F)) : SW P ops Q n w0 l e Rs := sw_ent (t.ent.trans (Ent.hall_open _ _ _)) h
theorem sw_ex {α : Type} (k : Nat) {A : α → HProp} [t : Take Rs k (hex A) F] (h : ∀ a, SW P ops Q n w0 l e ((k, A a) :: F)) : SW P ops Q n w0 l e Rs := fun w hw => by
  obtain ⟨a, _, h2⟩ := (hw.ent t.ent).opn (φ := fun _ => True) (p := A) fun y ⟨a, ha⟩ => ⟨a, trivial, ha⟩
  exact h a w h2
theorem Ent.or1 {k : Nat} {A B : HProp} {Rs : List Res} (h : Ent Rs ((k, A) :: F)) : Ent Rs ((k, hor A B) :: F) := h.trans (Ent.head fun _ x => .inl x)
theorem Ent.or2 {k : Nat} {A B : HProp} {Rs : List Res} (h : Ent Rs ((k, B) :: F)) : Ent Rs ((k, hor A B) :: F) := h.trans (Ent.head fun _ x => .inr x)
theorem Ent.and1 {k : Nat} {p : Prop} {A : HProp} {Rs : List Res} (hp : p) (h : Ent Rs ((k, A) :: F)) : Ent Rs ((k, hand p A) :: F) := h.trans (Ent.head fun _ x => ⟨hp, x⟩)
theorem Ent.ex1 {α : Type} {k : Nat} {A : α → HProp} {Rs : List Res} (a : α) (h : Ent Rs ((k, A a) :: F)) : Ent Rs ((k, hex A) :: F) := h.trans (Ent.head fun _ x => ⟨a, x⟩)
theorem Ent.hall1 {k : Nat} {L Rs : List Res} (h : Ent Rs (L ++ F)) : Ent Rs ((k, hall L) :: F) := h.trans (Ent.hall_close _ _ _)
theorem sc_hall {c : Code} (k : Nat) {L : List Res} [t : Take Rs k (hall L) F] (h : SC P Q n w0 c e (L ++ F)) : SC P Q n w0 c e Rs := sc_ent (t.ent.trans (Ent.hall_open _ _ _)) h
theorem sq_hall {x : Exit} (k : Nat) {L : List Res} [t : Take Rs k (hall L) F] (h : SQ Q n w0 x e (L ++ F)) : SQ Q n w0 x e Rs := sq_ent (t.ent.trans (Ent.hall_open _ _ _)) h
theorem sc_ex {α : Type} {c : Code} (k : Nat) {A : α → HProp} [t : Take Rs k (hex A) F] (h : ∀ a, SC P Q n w0 c e ((k, A a) :: F)) : SC P Q n w0 c e Rs := fun w hw => by
  obtain ⟨a, _, h2⟩ := (hw.ent t.ent).opn (φ := fun _ => True) (p := A) fun y ⟨a, ha⟩ => ⟨a, trivial, ha⟩
  exact h a w h2
theorem sq_ex {α : Type} {x : Exit} (k : Nat) {A : α → HProp} [t : Take Rs k (hex A) F] (h : ∀ a, SQ Q n w0 x e ((k, A a) :: F)) : SQ Q n w0 x e Rs := fun w hw => by
  obtain ⟨a, _, h2⟩ := (hw.ent t.ent).opn (φ := fun _ => True) (p := A) fun y ⟨a, ha⟩ => ⟨a, trivial, ha⟩
  exact h a w h2

/-- two of them as one -/
theorem Ent.join {k1 k2 : Nat} {A B C : HProp} (h : ∀ a b : Hp, hdisj a b → A a → B b → C (hjoin a b)) : Ent ((k1, A) :: (k2, B) :: F) ((k1, C) :: F) := by
  rintro x ⟨a, y, hd, rfl, hA, b, z, hd2, rfl, hB, hF⟩
  obtain ⟨h1, h2⟩ := (hdisj_join hd2).1 hd
  refine ⟨hjoin a b, z, (hdisj_join_l h1).2 ⟨h2, hd2⟩, (hjoin_assoc _ _ _).symm, h a b h1 hA hB, hF⟩
theorem imm_left {b : Nat} {o : Obj} {x y : Hp} (h : imm b o x) : imm b o (hjoin x y) := by
  have : x b = some (o, true) := h
  simp [imm, hjoin, this]
theorem imm_right {b : Nat} {o : Obj} {x y : Hp} (hd : hdisj x y) (h : imm b o y) : imm b o (hjoin x y) := by
  rw [hjoin_comm hd]; exact imm_left h
end
end Go.Gsl
