/- Bits as sums; bytes that can be read. -/
import Derived.Test.YtbmdaiopnnmamaaGsl19
namespace Go.Gsl
set_option linter.unusedVariables false

theorem ixor_u8_0 {a : Int} (h : 0 ≤ a ∧ a ≤ 255) : ixor .u8 a 0 = a := by
  have key : ∀ m : Fin 256, ixor .u8 (m.val : Int) 0 = (m.val : Int) := by decide +kernel
  have := key ⟨a.toNat, by omega⟩
  simp only at this
  rwa [Int.toNat_of_nonneg h.1] at this
theorem ixor_u8_255 {a : Int} (h : 0 ≤ a ∧ a ≤ 255) : ixor .u8 a 255 = 255 - a := by
  have key : ∀ m : Fin 256, ixor .u8 (m.val : Int) 255 = 255 - (m.val : Int) := by decide +kernel
  have := key ⟨a.toNat, by omega⟩
  simp only at this
  rwa [Int.toNat_of_nonneg h.1] at this
theorem or_nat {x y i : Nat} (h : y < 2 ^ i) : (x * 2 ^ i) ||| y = x * 2 ^ i + y := by
  have := Nat.shiftLeft_add_eq_or_of_lt h x
  rw [Nat.shiftLeft_eq] at this
  exact this.symm
theorem ofInt_nat (n : Nat) (a : Int) (h : 0 ≤ a) (h2 : a.toNat < 2 ^ n) : (BitVec.ofInt n a).toNat = a.toNat := by
  rw [BitVec.toNat_ofInt]
  have h3 : a = (a.toNat : Int) := (Int.toNat_of_nonneg h).symm
  rw [h3]
  have : ((a.toNat : Int) % ((2 ^ n : Nat) : Int)) = ((a.toNat % 2 ^ n : Nat) : Int) := by omega
  rw [this, Int.toNat_natCast, Int.toNat_natCast, Nat.mod_eq_of_lt h2]
theorem ior_u64 {x y : Int} (hx : 0 ≤ x) (hy : 0 ≤ y ∧ y ≤ 255) (h : x * 256 + y ≤ 18446744073709551615) : ior .u64 (x * 256) y = x * 256 + y := by
  unfold ior
  show IntKind.u64.wrap (((BitVec.ofInt 64 (x * 256) ||| BitVec.ofInt 64 y).toNat : Nat) : Int) = _
  rw [BitVec.toNat_or, ofInt_nat 64 _ (by omega) (by omega), ofInt_nat 64 _ (by omega) (by omega)]
  have h1 : (x * 256).toNat = x.toNat * 2 ^ 8 := by omega
  rw [h1, or_nat (by omega)]
  rw [wrap_u64 (by omega)]
  omega
theorem ior_u32 {x y : Int} (hx : 0 ≤ x) (hy : 0 ≤ y ∧ y ≤ 255) (h : x * 256 + y ≤ 4294967295) : ior .u32 (x * 256) y = x * 256 + y := by
  unfold ior
  show IntKind.u32.wrap (((BitVec.ofInt 32 (x * 256) ||| BitVec.ofInt 32 y).toNat : Nat) : Int) = _
  rw [BitVec.toNat_or, ofInt_nat 32 _ (by omega) (by omega), ofInt_nat 32 _ (by omega) (by omega)]
  have h1 : (x * 256).toNat = x.toNat * 2 ^ 8 := by omega
  rw [h1, or_nat (by omega)]
  rw [wrap_u32 (by omega)]
  omega
theorem ior_u32_16 {x y : Int} (hx : 0 ≤ x) (hy : 0 ≤ y ∧ y ≤ 65535) (h : x * 65536 + y ≤ 4294967295) : ior .u32 (x * 65536) y = x * 65536 + y := by
  unfold ior
  show IntKind.u32.wrap (((BitVec.ofInt 32 (x * 65536) ||| BitVec.ofInt 32 y).toNat : Nat) : Int) = _
  rw [BitVec.toNat_or, ofInt_nat 32 _ (by omega) (by omega), ofInt_nat 32 _ (by omega) (by omega)]
  have h1 : (x * 65536).toNat = x.toNat * 2 ^ 16 := by omega
  rw [h1, or_nat (by omega)]
  rw [wrap_u32 (by omega)]
  omega
theorem ixor_m1 {a : Int} (h : -9223372036854775808 ≤ a ∧ a ≤ 9223372036854775807) : ixor .i64 (-1) a = -a - 1 := by
  unfold ixor
  show IntKind.i64.wrap (((BitVec.ofInt 64 (-1) ^^^ BitVec.ofInt 64 a).toNat : Nat) : Int) = _
  have h1 : BitVec.ofInt 64 (-1) ^^^ BitVec.ofInt 64 a = ~~~ BitVec.ofInt 64 a := by
    rw [show BitVec.ofInt 64 (-1) = BitVec.allOnes 64 from by decide]
    exact BitVec.allOnes_xor
  rw [h1, BitVec.toNat_not, BitVec.toNat_ofInt]
  have h2 : IntKind.i64.wrap = fun c : Int => (c + 9223372036854775808) % 18446744073709551616 - 9223372036854775808 := by
    funext c
    simp [IntKind.wrap, IntKind.bits, IntKind.signed]
    omega
  rw [h2]
  simp only
  omega

section
variable {P : Program} {ops : List Oper} {Q : Cont} {n : Nat} {w0 : World} {rest : List Oper} {e : Env} {Rs F : List Res} {ty : TypeId}
theorem sw_cpl {d : Nat} {x : Operand} {t : TypeId} {a : Int} {pos : String} {after : Array Edge} [hx : Ev n e x (.int .i64 a)] (h : -9223372036854775808 ≤ a ∧ a ≤ 9223372036854775807)
    (q : SW P ops Q n w0 rest ((d, .int .i64 (-a - 1)) :: e) Rs) : SW P ops Q n w0 ({ dst := some d, op := .unOp .xor t x, type := ty, pos := pos, after := after, guard := none } :: rest) e Rs := by
  refine sw_op (h := @RunOp.pure P n w0 e Rs _ _ _ ⟨fun o h1 _ w => ?_⟩) q
  unfold execOp; rw [h1]
  have h2 : (Op.unary .xor (.int .i64 a)).run P w = .ok (.int .i64 (ixor .i64 (-1) a)) w := by
    simp [Op.unary, Op.intBits, IntKind.signed, ixor]
  simp only [hx.out, Sem.run_bind, h2, Result.andThen_ok, Sem.run_pure, ixor_m1 h]

theorem wrap_u8_mod (c : Int) : IntKind.u8.wrap c = c % 256 := by simp [IntKind.wrap, IntKind.bits, IntKind.signed]
theorem pow256 (x : Nat) : (256 : Int) ^ x = 2 ^ (8 * x) := by rw [Int.pow_mul]; rfl
theorem sw_shrP {d : Nat} {x y : Operand} {t t' : TypeId} {k k' : IntKind} {a b : Int} {pos : String} {after : Array Edge} (i : Nat) (m : Int) [hx : Ev n e x (.int k a)] [hy : Ev n e y (.int k' b)] (h : b = i ∧ i ≤ k.bits ∧ 0 ≤ a ∧ m = 2 ^ i)
    (q : SW P ops Q n w0 rest ((d, .int k (a / m)) :: e) Rs) : SW P ops Q n w0 ({ dst := some d, op := .binOp .shr t x y t', type := ty, pos := pos, after := after, guard := none } :: rest) e Rs := by
  obtain ⟨rfl, h2, h3, rfl⟩ := h
  refine sw_shr (by omega) ?_
  rw [Int.toNat_natCast, Nat.min_eq_left h2, Int.fdiv_eq_ediv_of_nonneg _ (Int.le_of_lt (Int.pow_pos (by omega)))]
  exact q
theorem sw_shlP {d : Nat} {x y : Operand} {t t' : TypeId} {k k' : IntKind} {a b : Int} {ok : Prop} {pos : String} {after : Array Edge} (i : Nat) (m : Int) [hx : Ev n e x (.int k a)] [hy : Ev n e y (.int k' b)] [hk : InK k (a * m) ok] (h : b = i ∧ i ≤ k.bits ∧ m = 2 ^ i) (hok : ok)
    (q : SW P ops Q n w0 rest ((d, .int k (a * m)) :: e) Rs) : SW P ops Q n w0 ({ dst := some d, op := .binOp .shl t x y t', type := ty, pos := pos, after := after, guard := none } :: rest) e Rs := by
  obtain ⟨rfl, h2, rfl⟩ := h
  refine sw_shl (by omega) ?_
  rw [Int.toNat_natCast, Nat.min_eq_left h2, hk.out hok]
  exact q
/-- an operation whose number is another word for this one -/
theorem sw_as {d : Nat} {op : Op} {pos : String} {after : Array Edge} {v : Value} (v' : Value) [h : PureOp P n e op ty v] (hv : v = v')
    (q : SW P ops Q n w0 rest ((d, v') :: e) Rs) : SW P ops Q n w0 ({ dst := some d, op := op, type := ty, pos := pos, after := after, guard := none } :: rest) e Rs :=
  sw_op_as (h := RunOp.pure op ty _) hv q

/-- bytes that 'r' lets be read -/
inductive RdB (r : HProp) : Value → List Int → Prop
  | nil : RdB r (.slice none 0 0) []
  | row (b o c : Nat) (bs : List Int) (hc : bs.length ≤ c) (hr : Reads r (some ⟨b, o, none⟩) (bs.map (Value.int .u8))) : RdB r (.slice (some ⟨b, o, none⟩) bs.length c) bs
def Byt (bs : List Int) : Prop := ∀ x ∈ bs, 0 ≤ x ∧ x ≤ 255
theorem RdB.own {b : Nat} {bs : List Int} {r : List Value} {t : TypeId} {fr : Nat × Nat} : RdB (pts b (.cells (bs.map (Value.int .u8) ++ r).toArray t fr)) (.slice (some ⟨b, 0, none⟩) bs.length (bs.length + r.length)) bs :=
  .row b 0 _ bs (by omega) (reads_pts fun j v hj => by rw [Nat.zero_add, List.getElem?_append_left (List.getElem?_eq_some_iff.1 hj).1]; exact hj)
theorem RdB.own0 {b : Nat} {bs : List Int} {t : TypeId} {fr : Nat × Nat} : RdB (pts b (.cells (bs.map (Value.int .u8)).toArray t fr)) (.slice (some ⟨b, 0, none⟩) bs.length bs.length) bs :=
  .row b 0 _ bs (Nat.le_refl _) (reads_pts fun j v hj => by rw [Nat.zero_add]; exact hj)
theorem RdB.one {r : HProp} {v : Value} {bs : List Int} (h : RdB r v bs) : One v := ⟨by cases h <;> rfl⟩
end
end Go.Gsl
