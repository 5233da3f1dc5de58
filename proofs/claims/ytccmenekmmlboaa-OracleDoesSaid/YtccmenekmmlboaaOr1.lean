/- The oracle's own functions: contracts over its memory. -/
import Derived.Test.YtccmenekmmlboaaInst
import Derived.Test.YtccmenekmmlboaaGsl6
namespace Go.Gsl
set_option linter.unusedVariables false
open Go.Proofs

instance : AtLoad Try.prog 92 .i64 := ⟨fun _ _ _ hc => run_call_load Try.func92 (by kernel_rfl) (by kernel_rfl) (by kernel_rfl) .i64 (by kernel_rfl) hc⟩
instance : AtStore Try.prog 91 .i64 := ⟨fun _ _ _ _ hc hz => run_call_store Try.func91 (by kernel_rfl) (by kernel_rfl) (by kernel_rfl) (by kernel_rfl) hc hz⟩
instance : AtAdd Try.prog 93 .i64 := ⟨fun _ _ _ _ hc hz => run_call_add Try.func93 (by kernel_rfl) (by kernel_rfl) (by kernel_rfl) .i64 (by kernel_rfl) hc hz rfl⟩

/-- atomic.Int64 -/
abbrev atom (x : Int) : Obj := .cells [.int .i64 x].toArray 111 (0, 0)

theorem f59_ok (p : Nat) (l : Addr) (a b c : Value) : Spec Try.prog 59 [.pointer (some ⟨p, 0, none⟩)] [p] [pts p (.cells [.pointer (some l), a, b, c].toArray 56 (0, 0))]
    fun F v Rs' => v = .bool false ∧ Rs' = (p, pts p (.cells [.pointer (some l), a, b, c].toArray 56 (0, 0))) :: F := by
  refine spec_of Try.func59 rfl Try.ntmps59 rfl ?_
  intro w0 F
  repeat' (first | with_reducible refine sw_op ?_ | with_reducible refine sw_op_ ?_ | with_reducible refine sw_nil ?_ | with_reducible refine sq_then ?_ | with_reducible refine sc_seq ?_ | with_reducible refine sc_region ?_ | with_reducible refine sw_guard_skip ?_ | with_reducible refine sw_guard_skip_ ?_ | with_reducible refine sw_guard_run ?_ | with_reducible refine sc_cond_true ?_ | with_reducible refine sc_cond_false ?_ | with_reducible refine sc_ret ?_ | with_reducible refine sq_then_ret ?_ | with_reducible refine sc_skip ?_ | with_reducible refine sc_block ?_ | with_reducible refine sq_block ?_ | with_reducible refine sq_block_ret ?_ | with_reducible refine sc_exit ?_ | with_reducible refine sq_then_exit ?_ | with_reducible refine sq_block_exit ?_ | with_reducible refine sq_block_past ?_ | with_reducible refine sq_round_ret ?_ | with_reducible refine sq_round_exit ?_ | fail)
  exact sq_ret1 Try.results59 ⟨_, ⟨rfl, rfl⟩, Ent.refl _⟩

theorem f59_nil : Spec Try.prog 59 [.pointer none] [] [] fun F v Rs' => v = .bool true ∧ Rs' = F := by
  refine spec_of Try.func59 rfl Try.ntmps59 rfl ?_
  intro w0 F
  repeat' (first | with_reducible refine sw_op ?_ | with_reducible refine sw_op_ ?_ | with_reducible refine sw_nil ?_ | with_reducible refine sq_then ?_ | with_reducible refine sc_seq ?_ | with_reducible refine sc_region ?_ | with_reducible refine sw_guard_skip ?_ | with_reducible refine sw_guard_skip_ ?_ | with_reducible refine sw_guard_run ?_ | with_reducible refine sc_cond_true ?_ | with_reducible refine sc_cond_false ?_ | with_reducible refine sc_ret ?_ | with_reducible refine sq_then_ret ?_ | with_reducible refine sc_skip ?_ | with_reducible refine sc_block ?_ | with_reducible refine sq_block ?_ | with_reducible refine sq_block_ret ?_ | with_reducible refine sc_exit ?_ | with_reducible refine sq_then_exit ?_ | with_reducible refine sq_block_exit ?_ | with_reducible refine sq_block_past ?_ | with_reducible refine sq_round_ret ?_ | with_reducible refine sq_round_exit ?_ | fail)
  exact sq_ret1 Try.results59 ⟨_, ⟨rfl, rfl⟩, Ent.refl _⟩

theorem f59_zero (p : Nat) (a b c : Value) : Spec Try.prog 59 [.pointer (some ⟨p, 0, none⟩)] [p] [pts p (.cells [.pointer none, a, b, c].toArray 56 (0, 0))]
    fun F v Rs' => v = .bool true ∧ Rs' = (p, pts p (.cells [.pointer none, a, b, c].toArray 56 (0, 0))) :: F := by
  refine spec_of Try.func59 rfl Try.ntmps59 rfl ?_
  intro w0 F
  repeat' (first | with_reducible refine sw_op ?_ | with_reducible refine sw_op_ ?_ | with_reducible refine sw_nil ?_ | with_reducible refine sq_then ?_ | with_reducible refine sc_seq ?_ | with_reducible refine sc_region ?_ | with_reducible refine sw_guard_skip ?_ | with_reducible refine sw_guard_skip_ ?_ | with_reducible refine sw_guard_run ?_ | with_reducible refine sc_cond_true ?_ | with_reducible refine sc_cond_false ?_ | with_reducible refine sc_ret ?_ | with_reducible refine sq_then_ret ?_ | with_reducible refine sc_skip ?_ | with_reducible refine sc_block ?_ | with_reducible refine sq_block ?_ | with_reducible refine sq_block_ret ?_ | with_reducible refine sc_exit ?_ | with_reducible refine sq_then_exit ?_ | with_reducible refine sq_block_exit ?_ | with_reducible refine sq_block_past ?_ | with_reducible refine sq_round_ret ?_ | with_reducible refine sq_round_exit ?_ | fail)
  exact sq_ret1 Try.results59 ⟨_, ⟨rfl, rfl⟩, Ent.refl _⟩

theorem f60_ok (l : Nat) (x : Int) : Spec Try.prog 60 [.pointer (some ⟨l, 0, none⟩)] [l] [pts l (atom x)] fun F v Rs' => v = .int .i64 x ∧ Rs' = (l, pts l (atom x)) :: F := by
  refine spec_of Try.func60 rfl Try.ntmps60 rfl ?_
  intro w0 F
  repeat' (first | with_reducible refine sw_op ?_ | with_reducible refine sw_op_ ?_ | with_reducible refine sw_nil ?_ | with_reducible refine sq_then ?_ | with_reducible refine sc_seq ?_ | with_reducible refine sc_region ?_ | with_reducible refine sw_guard_skip ?_ | with_reducible refine sw_guard_skip_ ?_ | with_reducible refine sw_guard_run ?_ | with_reducible refine sc_cond_true ?_ | with_reducible refine sc_cond_false ?_ | with_reducible refine sc_ret ?_ | with_reducible refine sq_then_ret ?_ | with_reducible refine sc_skip ?_ | with_reducible refine sc_block ?_ | with_reducible refine sq_block ?_ | with_reducible refine sq_block_ret ?_ | with_reducible refine sc_exit ?_ | with_reducible refine sq_then_exit ?_ | with_reducible refine sq_block_exit ?_ | with_reducible refine sq_block_past ?_ | with_reducible refine sq_round_ret ?_ | with_reducible refine sq_round_exit ?_ | fail)
  exact sq_ret1 Try.results60 ⟨_, ⟨rfl, rfl⟩, Ent.refl _⟩

theorem f58_ok (l : Nat) (x y : Int) : Spec Try.prog 58 [.pointer (some ⟨l, 0, none⟩), .int .i64 y] [l] [pts l (atom x)] fun F v Rs' => v = .tuple #[] ∧ Rs' = (l, pts l (atom y)) :: F := by
  refine spec_of Try.func58 rfl Try.ntmps58 rfl ?_
  intro w0 F
  repeat' (first | with_reducible refine sw_op ?_ | with_reducible refine sw_op_ ?_ | with_reducible refine sw_atStore ?_ | with_reducible refine sw_nil ?_ | with_reducible refine sq_then ?_ | with_reducible refine sc_seq ?_ | with_reducible refine sc_region ?_ | with_reducible refine sw_guard_skip ?_ | with_reducible refine sw_guard_skip_ ?_ | with_reducible refine sw_guard_run ?_ | with_reducible refine sc_cond_true ?_ | with_reducible refine sc_cond_false ?_ | with_reducible refine sc_ret ?_ | with_reducible refine sq_then_ret ?_ | with_reducible refine sc_skip ?_ | with_reducible refine sc_block ?_ | with_reducible refine sq_block ?_ | with_reducible refine sq_block_ret ?_ | with_reducible refine sc_exit ?_ | with_reducible refine sq_then_exit ?_ | with_reducible refine sq_block_exit ?_ | with_reducible refine sq_block_past ?_ | with_reducible refine sq_round_ret ?_ | with_reducible refine sq_round_exit ?_ | fail)
  exact sq_end0 Try.results58 ⟨_, ⟨rfl, rfl⟩, Ent.refl _⟩

theorem f61_ok (l : Nat) (x y : Int) (h : -9223372036854775808 ≤ x + y ∧ x + y ≤ 9223372036854775807) : Spec Try.prog 61 [.pointer (some ⟨l, 0, none⟩), .int .i64 y] [l] [pts l (atom x)] fun F v Rs' => v = .int .i64 (x + y) ∧ Rs' = (l, pts l (atom (x + y))) :: F := by
  refine spec_of Try.func61 rfl Try.ntmps61 rfl ?_
  intro w0 F
  repeat' (first | with_reducible refine sw_op ?_ | with_reducible refine sw_op_ ?_ | with_reducible refine sw_atAdd (x + y) (IntWalk.i64_in _ h) ?_ | with_reducible refine sw_nil ?_ | with_reducible refine sq_then ?_ | with_reducible refine sc_seq ?_ | with_reducible refine sc_region ?_ | with_reducible refine sw_guard_skip ?_ | with_reducible refine sw_guard_skip_ ?_ | with_reducible refine sw_guard_run ?_ | with_reducible refine sc_cond_true ?_ | with_reducible refine sc_cond_false ?_ | with_reducible refine sc_ret ?_ | with_reducible refine sq_then_ret ?_ | with_reducible refine sc_skip ?_ | with_reducible refine sc_block ?_ | with_reducible refine sq_block ?_ | with_reducible refine sq_block_ret ?_ | with_reducible refine sc_exit ?_ | with_reducible refine sq_then_exit ?_ | with_reducible refine sq_block_exit ?_ | with_reducible refine sq_block_past ?_ | with_reducible refine sq_round_ret ?_ | with_reducible refine sq_round_exit ?_ | fail)
  exact sq_ret1 Try.results61 ⟨_, ⟨rfl, rfl⟩, Ent.refl _⟩

/-! ### the oracle's memory -/

/-- a set of numbers as a map's content -/
def bmap (A : Int → Bool) : Int → Option Value := fun i => if A i = true then some (.bool true) else none
def imap (O : Int → Option Int) : Int → Option Value := fun i => (O i).map (.int .i64)

theorem bmap_get (A : Int → Bool) (i : Int) : (bmap A i).getD (.bool false) = .bool (A i) := by
  unfold bmap; cases h : A i <;> simp
theorem bmap_put (A : Int → Bool) (i : Int) : mput (bmap A) i (.bool true) = bmap (fun j => j == i || A j) := by
  funext j; unfold mput bmap; by_cases h : j = i <;> simp [h]
theorem bmap_del (A : Int → Bool) (i : Int) : mdel (bmap A) i = bmap (fun j => j != i && A j) := by
  funext j; unfold mdel bmap; by_cases h : j = i <;> simp [h]
theorem bmap_nil : mnil = bmap (fun _ => false) := by funext j; simp [mnil, bmap]
theorem imap_get (O : Int → Option Int) (i : Int) : (imap O i).getD (.int .i64 0) = .int .i64 ((O i).getD 0) := by
  unfold imap; cases h : O i <;> simp
theorem imap_is (O : Int → Option Int) (i : Int) : (imap O i).isSome = (O i).isSome := by
  unfold imap; cases h : O i <;> simp
theorem imap_put (O : Int → Option Int) (i v : Int) : mput (imap O) i (.int .i64 v) = imap (fun j => if j = i then some v else O j) := by
  funext j; unfold mput imap; by_cases h : j = i <;> simp [h]
theorem imap_del (O : Int → Option Int) (i : Int) : mdel (imap O) i = imap (fun j => if j = i then none else O j) := by
  funext j; unfold mdel imap; by_cases h : j = i <;> simp [h]
theorem imap_nil : mnil = imap (fun _ => none) := by funext j; simp [mnil, imap]

instance (priority := 2000) RunOp.lookup_b {P : Program} {n : Nat} {w0 : World} {e : Env} {Rs : List Res} {ty : TypeId} (t kt et : TypeId) (x y : Operand) (k k' : IntKind) (b : Nat) (A : Int → Bool) (i : Int) (F : List Res) [Ev n e x (.map (some b))] [Ev n e y (.int k i)] [Und P t (.map kt et)] [Und P kt (.int k')] [ZeroOf P et (.bool false)]
    [Take Rs b (MapI k b (bmap A)) F] : RunOp P n w0 e Rs (.lookup t x y false) ty (.bool (A i)) := by
  rw [← bmap_get]; exact runop_lookup
instance (priority := 2000) RunOp.lookup_i {P : Program} {n : Nat} {w0 : World} {e : Env} {Rs : List Res} {ty : TypeId} (t kt et : TypeId) (x y : Operand) (k k' : IntKind) (b : Nat) (O : Int → Option Int) (i : Int) (F : List Res) [Ev n e x (.map (some b))] [Ev n e y (.int k i)] [Und P t (.map kt et)] [Und P kt (.int k')] [ZeroOf P et (.int .i64 0)]
    [Take Rs b (MapI k b (imap O)) F] : RunOp P n w0 e Rs (.lookup t x y false) ty (.int .i64 ((O i).getD 0)) := by
  rw [← imap_get]; exact runop_lookup
instance (priority := 2000) RunOp.lookup2_i {P : Program} {n : Nat} {w0 : World} {e : Env} {Rs : List Res} {ty : TypeId} (t kt et : TypeId) (x y : Operand) (k k' : IntKind) (b : Nat) (O : Int → Option Int) (i : Int) (F : List Res) [Ev n e x (.map (some b))] [Ev n e y (.int k i)] [Und P t (.map kt et)] [Und P kt (.int k')] [ZeroOf P et (.int .i64 0)]
    [Take Rs b (MapI k b (imap O)) F] : RunOp P n w0 e Rs (.lookup t x y true) ty (.tuple [.int .i64 ((O i).getD 0), .bool (O i).isSome].toArray) := by
  rw [← imap_get, ← imap_is]; exact runop_lookup2

structure Or where
  last : Int
  pub : Int
  A : Int → Bool
  O : Int → Option Int

structure Or.Wf (s : Or) : Prop where
  p0 : 0 ≤ s.pub
  pl : s.pub ≤ s.last
  lm : s.last ≤ 1099511627776
  a1 : s.A (s.pub + 1) = false
  alo : ∀ i, s.A i = true → s.pub < i
  ahi : ∀ i, s.A i = true → i ≤ s.last
  od : ∀ i t, s.O i = some t → 0 ≤ i ∧ i ≤ 16
  ov : ∀ i t, s.O i = some t → 0 ≤ t ∧ t ≤ s.pub

def oblk (l q m1 m2 : Nat) : Obj := .cells [.pointer (some ⟨l, 0, none⟩), .pointer (some ⟨q, 0, none⟩), .map (some m1), .map (some m2)].toArray 56 (0, 0)

def ORl (p : Nat) (s : Or) (l q m1 m2 : Nat) (F : List Res) : List Res :=
  (p, pts p (.cells [.pointer (some ⟨l, 0, none⟩), .pointer (some ⟨q, 0, none⟩), .map (some m1), .map (some m2)].toArray 56 (0, 0))) :: (l, pts l (atom s.last)) :: (q, pts q (atom s.pub)) :: (m1, MapI .i64 m1 (bmap s.A)) :: (m2, MapI .i64 m2 (imap s.O)) :: F

/-- An oracle stands at p. -/
def OR (p : Nat) (s : Or) : HProp := fun h => s.Wf ∧ ∃ l q m1 m2, sepL (ORl p s l q m1 m2 []) h

theorem OR.openS {p k : Nat} {s : Or} {F : List Res} {w0 w : World} (hs : Sat w0 w ((k, OR p s) :: F)) : s.Wf ∧ ∃ l q m1 m2, Sat w0 w (ORl p s l q m1 m2 F) := by
  obtain ⟨⟨l, q, m1, m2⟩, hw, h⟩ := hs.opn (α := Nat × Nat × Nat × Nat) (φ := fun _ => s.Wf) (p := fun a => hall (ORl p s a.1 a.2.1 a.2.2.1 a.2.2.2 [])) (by rintro x ⟨hw, l, q, m1, m2, h⟩; exact ⟨(l, q, m1, m2), hw, h⟩)
  exact ⟨hw, l, q, m1, m2, h.ent (Ent.hall_open _ _ _)⟩

theorem OR.close {p : Nat} {s : Or} {l q m1 m2 : Nat} {F : List Res} (hw : s.Wf) : Ent (ORl p s l q m1 m2 F) ((p, OR p s) :: F) := by
  intro h hs
  obtain ⟨a, b, hd, rfl, hA, hF⟩ := (sepL_append (ORl p s l q m1 m2 []) F _).1 hs
  exact ⟨a, b, hd, rfl, ⟨hw, l, q, m1, m2, hA⟩, hF⟩

section
variable {P : Program} {ops : List Oper} {Q : Cont} {n : Nat} {w0 : World} {l : List Oper} {e : Env} {Rs F : List Res}
theorem OR.sc {c : Code} {p : Nat} {s : Or} [t : Take Rs p (OR p s) F] (h : s.Wf → ∀ l q m1 m2, SC P Q n w0 c e (ORl p s l q m1 m2 F)) : SC P Q n w0 c e Rs := by
  intro w hw
  obtain ⟨hwf, l, q, m1, m2, hs⟩ := OR.openS (hw.ent t.ent)
  exact h hwf l q m1 m2 w hs
theorem OR.sw {p : Nat} {s : Or} [t : Take Rs p (OR p s) F] (h : s.Wf → ∀ l' q m1 m2, SW P ops Q n w0 l e (ORl p s l' q m1 m2 F)) : SW P ops Q n w0 l e Rs := by
  intro w hw
  obtain ⟨hwf, l, q, m1, m2, hs⟩ := OR.openS (hw.ent t.ent)
  exact h hwf l q m1 m2 w hs
end

theorem f18_ok (p : Nat) (s : Or) : Spec Try.prog 18 [.pointer (some ⟨p, 0, none⟩)] [p] [OR p s] fun F v Rs' => v = .int .i64 s.pub ∧ Rs' = (p, OR p s) :: F := by
  refine spec_of Try.func18 rfl Try.ntmps18 rfl ?_
  intro w0 F
  refine OR.sc (p := p) (s := s) fun hw l q m1 m2 => ?_
  unfold ORl
  repeat' (first | with_reducible refine sw_op ?_ | with_reducible refine sw_op_ ?_ | ((with_reducible refine sw_call (f59_ok p _ _ _ _) ?_); rintro _ _ ⟨rfl, rfl⟩) | ((with_reducible refine sw_call (f60_ok q s.pub) ?_); rintro _ _ ⟨rfl, rfl⟩) | with_reducible refine sw_nil ?_ | with_reducible refine sq_then ?_ | with_reducible refine sc_seq ?_ | with_reducible refine sc_region ?_ | with_reducible refine sw_guard_skip ?_ | with_reducible refine sw_guard_skip_ ?_ | with_reducible refine sw_guard_run ?_ | with_reducible refine sc_cond_true ?_ | with_reducible refine sc_cond_false ?_ | with_reducible refine sc_ret ?_ | with_reducible refine sq_then_ret ?_ | with_reducible refine sc_skip ?_ | with_reducible refine sc_block ?_ | with_reducible refine sq_block ?_ | with_reducible refine sq_block_ret ?_ | with_reducible refine sc_exit ?_ | with_reducible refine sq_then_exit ?_ | with_reducible refine sq_block_exit ?_ | with_reducible refine sq_block_past ?_ | with_reducible refine sq_round_ret ?_ | with_reducible refine sq_round_exit ?_ | fail)
  refine sq_ret1 Try.results18 ⟨_, ⟨rfl, rfl⟩, Ent.trans (B := ORl p s l q m1 m2 F) ?_ (OR.close hw)⟩
  unfold ORl
  repeat' (first | with_reducible exact Ent.refl _ | with_reducible refine Ent.take_eq ?_ ?_ | rfl | with_reducible refine Ent.trans (Ent.drop _ _) ?_)

abbrev orow (l q m1 m2 : Nat) : Obj := .cells [.pointer (some ⟨l, 0, none⟩), .pointer (some ⟨q, 0, none⟩), .map (some m1), .map (some m2)].toArray 56 (0, 0)
theorem f18_raw (p l q m1 m2 : Nat) (x : Int) : Spec Try.prog 18 [.pointer (some ⟨p, 0, none⟩)] [p, q] [pts p (orow l q m1 m2), pts q (atom x)] fun F v Rs' => v = .int .i64 x ∧ Rs' = (p, pts p (orow l q m1 m2)) :: (q, pts q (atom x)) :: F := by
  refine spec_of Try.func18 rfl Try.ntmps18 rfl ?_
  intro w0 F
  repeat' (first | with_reducible refine sw_op ?_ | with_reducible refine sw_op_ ?_ | ((with_reducible refine sw_call (f59_ok p _ _ _ _) ?_); rintro _ _ ⟨rfl, rfl⟩) | ((with_reducible refine sw_call (f60_ok q x) ?_); rintro _ _ ⟨rfl, rfl⟩) | with_reducible refine sw_nil ?_ | with_reducible refine sq_then ?_ | with_reducible refine sc_seq ?_ | with_reducible refine sc_region ?_ | with_reducible refine sw_guard_skip ?_ | with_reducible refine sw_guard_skip_ ?_ | with_reducible refine sw_guard_run ?_ | with_reducible refine sc_cond_true ?_ | with_reducible refine sc_cond_false ?_ | with_reducible refine sc_ret ?_ | with_reducible refine sq_then_ret ?_ | with_reducible refine sc_skip ?_ | with_reducible refine sc_block ?_ | with_reducible refine sq_block ?_ | with_reducible refine sq_block_ret ?_ | with_reducible refine sc_exit ?_ | with_reducible refine sq_then_exit ?_ | with_reducible refine sq_block_exit ?_ | with_reducible refine sq_block_past ?_ | with_reducible refine sq_round_ret ?_ | with_reducible refine sq_round_exit ?_ | fail)
  refine sq_ret1 Try.results18 ⟨_, ⟨rfl, rfl⟩, ?_⟩
  repeat' (first | with_reducible exact Ent.refl _ | with_reducible refine Ent.take_eq ?_ ?_ | rfl | with_reducible refine Ent.trans (Ent.drop _ _) ?_)
theorem f19_raw (p l q m1 m2 : Nat) (x : Int) : Spec Try.prog 19 [.pointer (some ⟨p, 0, none⟩)] [p, l] [pts p (orow l q m1 m2), pts l (atom x)] fun F v Rs' => v = .int .i64 x ∧ Rs' = (p, pts p (orow l q m1 m2)) :: (l, pts l (atom x)) :: F := by
  refine spec_of Try.func19 rfl Try.ntmps19 rfl ?_
  intro w0 F
  repeat' (first | with_reducible refine sw_op ?_ | with_reducible refine sw_op_ ?_ | ((with_reducible refine sw_call (f59_ok p _ _ _ _) ?_); rintro _ _ ⟨rfl, rfl⟩) | ((with_reducible refine sw_call (f60_ok l x) ?_); rintro _ _ ⟨rfl, rfl⟩) | with_reducible refine sw_nil ?_ | with_reducible refine sq_then ?_ | with_reducible refine sc_seq ?_ | with_reducible refine sc_region ?_ | with_reducible refine sw_guard_skip ?_ | with_reducible refine sw_guard_skip_ ?_ | with_reducible refine sw_guard_run ?_ | with_reducible refine sc_cond_true ?_ | with_reducible refine sc_cond_false ?_ | with_reducible refine sc_ret ?_ | with_reducible refine sq_then_ret ?_ | with_reducible refine sc_skip ?_ | with_reducible refine sc_block ?_ | with_reducible refine sq_block ?_ | with_reducible refine sq_block_ret ?_ | with_reducible refine sc_exit ?_ | with_reducible refine sq_then_exit ?_ | with_reducible refine sq_block_exit ?_ | with_reducible refine sq_block_past ?_ | with_reducible refine sq_round_ret ?_ | with_reducible refine sq_round_exit ?_ | fail)
  refine sq_ret1 Try.results19 ⟨_, ⟨rfl, rfl⟩, ?_⟩
  repeat' (first | with_reducible exact Ent.refl _ | with_reducible refine Ent.take_eq ?_ ?_ | rfl | with_reducible refine Ent.trans (Ent.drop _ _) ?_)

theorem f19_ok (p : Nat) (s : Or) : Spec Try.prog 19 [.pointer (some ⟨p, 0, none⟩)] [p] [OR p s] fun F v Rs' => v = .int .i64 s.last ∧ Rs' = (p, OR p s) :: F := by
  refine spec_of Try.func19 rfl Try.ntmps19 rfl ?_
  intro w0 F
  refine OR.sc (p := p) (s := s) fun hw l q m1 m2 => ?_
  unfold ORl
  repeat' (first | with_reducible refine sw_op ?_ | with_reducible refine sw_op_ ?_ | ((with_reducible refine sw_call (f59_ok p _ _ _ _) ?_); rintro _ _ ⟨rfl, rfl⟩) | ((with_reducible refine sw_call (f60_ok l s.last) ?_); rintro _ _ ⟨rfl, rfl⟩) | with_reducible refine sw_nil ?_ | with_reducible refine sq_then ?_ | with_reducible refine sc_seq ?_ | with_reducible refine sc_region ?_ | with_reducible refine sw_guard_skip ?_ | with_reducible refine sw_guard_skip_ ?_ | with_reducible refine sw_guard_run ?_ | with_reducible refine sc_cond_true ?_ | with_reducible refine sc_cond_false ?_ | with_reducible refine sc_ret ?_ | with_reducible refine sq_then_ret ?_ | with_reducible refine sc_skip ?_ | with_reducible refine sc_block ?_ | with_reducible refine sq_block ?_ | with_reducible refine sq_block_ret ?_ | with_reducible refine sc_exit ?_ | with_reducible refine sq_then_exit ?_ | with_reducible refine sq_block_exit ?_ | with_reducible refine sq_block_past ?_ | with_reducible refine sq_round_ret ?_ | with_reducible refine sq_round_exit ?_ | fail)
  refine sq_ret1 Try.results19 ⟨_, ⟨rfl, rfl⟩, Ent.trans (B := ORl p s l q m1 m2 F) ?_ (OR.close hw)⟩
  unfold ORl
  repeat' (first | with_reducible exact Ent.refl _ | with_reducible refine Ent.take_eq ?_ ?_ | rfl | with_reducible refine Ent.trans (Ent.drop _ _) ?_)

/-- New -/
theorem f14_bad (x : Int) (h : x < 0 ∨ 1099511627776 < x) : Spec Try.prog 14 [.int .i64 x] [] [] fun F v Rs' => v = .tuple #[.pointer none, .int .i64 1] ∧ Rs' = F := by
  refine spec_of Try.func14 rfl Try.ntmps14 rfl ?_
  intro w0 F
  repeat' (first | with_reducible refine sw_op ?_ | with_reducible refine sw_op_ ?_ | with_reducible refine sw_nil ?_ | with_reducible refine sq_then ?_ | with_reducible refine sc_seq ?_ | with_reducible refine sc_region ?_ | with_reducible refine sw_guard_skip ?_ | with_reducible refine sw_guard_skip_ ?_ | with_reducible refine sw_guard_run ?_ | with_reducible refine sc_cond_true ?_ | with_reducible refine sc_cond_false ?_ | with_reducible refine sc_ret ?_ | with_reducible refine sq_then_ret ?_ | with_reducible refine sc_skip ?_ | with_reducible refine sc_block ?_ | with_reducible refine sq_block ?_ | with_reducible refine sq_block_ret ?_ | with_reducible refine sc_exit ?_ | with_reducible refine sq_then_exit ?_ | with_reducible refine sq_block_exit ?_ | with_reducible refine sq_block_past ?_ | with_reducible refine sq_round_ret ?_ | with_reducible refine sq_round_exit ?_ | (with_reducible refine sc_cond (fun h => ?_) (fun h => ?_)) <;> (try (exfalso; first | contradiction | omega | exact h Iff.rfl)) | (with_reducible refine sw_guard_split (fun h => ?_) (fun h => ?_)) <;> (try (exfalso; first | contradiction | omega | exact h Iff.rfl)) | (with_reducible refine sw_pick (fun h => ?_) (fun h => ?_)) <;> (try (exfalso; first | contradiction | omega | exact h Iff.rfl)) | fail)
  all_goals (exact sq_ret2 Try.results14 ⟨_, ⟨rfl, rfl⟩, Ent.refl _⟩)

def Or.new (x : Int) : Or := ⟨x, x, fun _ => false, fun _ => none⟩
theorem Or.new_wf {x : Int} (h0 : 0 ≤ x) (h1 : x ≤ 1099511627776) : (Or.new x).Wf where
  p0 := h0
  pl := Int.le_refl _
  lm := h1
  a1 := rfl
  alo := fun _ h => by cases h
  ahi := fun _ h => by cases h
  od := fun _ _ h => by cases h
  ov := fun _ _ h => by cases h

theorem f14_ok (x : Int) (h0 : 0 ≤ x) (h1 : x ≤ 1099511627776) : Spec Try.prog 14 [.int .i64 x] [] [] fun F v Rs' => ∃ p, v = .tuple #[.pointer (some ⟨p, 0, none⟩), .int .i64 0] ∧ Rs' = (p, OR p (Or.new x)) :: F := by
  refine spec_of Try.func14 rfl Try.ntmps14 rfl ?_
  intro w0 F
  repeat' (first | with_reducible refine sw_op ?_ | with_reducible refine sw_op_ ?_ | ((with_reducible refine sw_build [.int .i64 0] ?_ ?_); exact rfl) | with_reducible refine sw_nil ?_ | with_reducible refine sq_then ?_ | with_reducible refine sc_seq ?_ | with_reducible refine sc_region ?_ | with_reducible refine sw_guard_skip ?_ | with_reducible refine sw_guard_skip_ ?_ | with_reducible refine sw_guard_run ?_ | with_reducible refine sc_cond_true ?_ | with_reducible refine sc_cond_false ?_ | with_reducible refine sc_ret ?_ | with_reducible refine sq_then_ret ?_ | with_reducible refine sc_skip ?_ | with_reducible refine sc_block ?_ | with_reducible refine sq_block ?_ | with_reducible refine sq_block_ret ?_ | with_reducible refine sc_exit ?_ | with_reducible refine sq_then_exit ?_ | with_reducible refine sq_block_exit ?_ | with_reducible refine sq_block_past ?_ | with_reducible refine sq_round_ret ?_ | with_reducible refine sq_round_exit ?_ | (with_reducible refine sc_cond (fun h => ?_) (fun h => ?_)) <;> (try (exfalso; first | contradiction | omega | exact h Iff.rfl)) | (with_reducible refine sw_guard_split (fun h => ?_) (fun h => ?_)) <;> (try (exfalso; first | contradiction | omega | exact h Iff.rfl)) | (with_reducible refine sw_pick (fun h => ?_) (fun h => ?_)) <;> (try (exfalso; first | contradiction | omega | exact h Iff.rfl)) | fail)
  refine sw_box fun l => ?_
  repeat' (first | with_reducible refine sw_op ?_ | with_reducible refine sw_op_ ?_ | ((with_reducible refine sw_build [.int .i64 0] ?_ ?_); exact rfl) | with_reducible refine sw_nil ?_ | with_reducible refine sq_then ?_ | with_reducible refine sc_seq ?_ | with_reducible refine sc_region ?_ | with_reducible refine sw_guard_skip ?_ | with_reducible refine sw_guard_skip_ ?_ | with_reducible refine sw_guard_run ?_ | with_reducible refine sc_cond_true ?_ | with_reducible refine sc_cond_false ?_ | with_reducible refine sc_ret ?_ | with_reducible refine sq_then_ret ?_ | with_reducible refine sc_skip ?_ | with_reducible refine sc_block ?_ | with_reducible refine sq_block ?_ | with_reducible refine sq_block_ret ?_ | with_reducible refine sc_exit ?_ | with_reducible refine sq_then_exit ?_ | with_reducible refine sq_block_exit ?_ | with_reducible refine sq_block_past ?_ | with_reducible refine sq_round_ret ?_ | with_reducible refine sq_round_exit ?_ | fail)
  refine sw_box fun q => ?_
  refine sw_makeMap (k := .i64) fun m1 => ?_
  refine sw_makeMap (k := .i64) fun m2 => ?_
  refine sw_build [.pointer (some ⟨l, 0, none⟩), .pointer (some ⟨q, 0, none⟩), .map (some m1), .map (some m2)] rfl ?_
  refine sw_box fun p => ?_
  repeat' (first | with_reducible refine sw_op ?_ | with_reducible refine sw_op_ ?_ | ((with_reducible refine sw_call (f58_ok l 0 x) ?_); rintro _ _ ⟨rfl, rfl⟩) | ((with_reducible refine sw_call (f58_ok q 0 x) ?_); rintro _ _ ⟨rfl, rfl⟩) | with_reducible refine sw_nil ?_ | with_reducible refine sq_then ?_ | with_reducible refine sc_seq ?_ | with_reducible refine sc_region ?_ | with_reducible refine sw_guard_skip ?_ | with_reducible refine sw_guard_skip_ ?_ | with_reducible refine sw_guard_run ?_ | with_reducible refine sc_cond_true ?_ | with_reducible refine sc_cond_false ?_ | with_reducible refine sc_ret ?_ | with_reducible refine sq_then_ret ?_ | with_reducible refine sc_skip ?_ | with_reducible refine sc_block ?_ | with_reducible refine sq_block ?_ | with_reducible refine sq_block_ret ?_ | with_reducible refine sc_exit ?_ | with_reducible refine sq_then_exit ?_ | with_reducible refine sq_block_exit ?_ | with_reducible refine sq_block_past ?_ | with_reducible refine sq_round_ret ?_ | with_reducible refine sq_round_exit ?_ | fail)
  refine sq_ret2 Try.results14 ⟨_, ⟨p, rfl, rfl⟩, Ent.trans (B := ORl p (Or.new x) l q m1 m2 F) ?_ (OR.close (Or.new_wf h0 h1))⟩
  unfold ORl
  rw [show bmap (Or.new x).A = mnil from bmap_nil.symm, show imap (Or.new x).O = mnil from imap_nil.symm]
  repeat' (first | with_reducible exact Ent.refl _ | with_reducible refine Ent.take_eq ?_ ?_ | rfl | with_reducible refine Ent.trans (Ent.drop _ _) ?_)

/-- Next -/
theorem f16_full (p : Nat) (s : Or) (hm : 1099511627776 ≤ s.last) : Spec Try.prog 16 [.pointer (some ⟨p, 0, none⟩)] [p] [OR p s] fun F v Rs' => v = .tuple #[.int .i64 0, .int .i64 5] ∧ Rs' = (p, OR p s) :: F := by
  refine spec_of Try.func16 rfl Try.ntmps16 rfl ?_
  intro w0 F
  refine OR.sc (p := p) (s := s) fun hw l q m1 m2 => ?_
  unfold ORl
  repeat' (first | with_reducible refine sw_op ?_ | with_reducible refine sw_op_ ?_ | ((with_reducible refine sw_call (f59_ok p _ _ _ _) ?_); rintro _ _ ⟨rfl, rfl⟩) | ((with_reducible refine sw_call (f60_ok l s.last) ?_); rintro _ _ ⟨rfl, rfl⟩) | with_reducible refine sw_nil ?_ | with_reducible refine sq_then ?_ | with_reducible refine sc_seq ?_ | with_reducible refine sc_region ?_ | with_reducible refine sw_guard_skip ?_ | with_reducible refine sw_guard_skip_ ?_ | with_reducible refine sw_guard_run ?_ | with_reducible refine sc_cond_true ?_ | with_reducible refine sc_cond_false ?_ | with_reducible refine sc_ret ?_ | with_reducible refine sq_then_ret ?_ | with_reducible refine sc_skip ?_ | with_reducible refine sc_block ?_ | with_reducible refine sq_block ?_ | with_reducible refine sq_block_ret ?_ | with_reducible refine sc_exit ?_ | with_reducible refine sq_then_exit ?_ | with_reducible refine sq_block_exit ?_ | with_reducible refine sq_block_past ?_ | with_reducible refine sq_round_ret ?_ | with_reducible refine sq_round_exit ?_ | (with_reducible refine sc_cond (fun h => ?_) (fun h => ?_)) <;> (try (exfalso; first | contradiction | omega | exact h Iff.rfl)) | fail)
  refine sq_ret2 Try.results16 ⟨_, ⟨rfl, rfl⟩, Ent.trans (B := ORl p s l q m1 m2 F) ?_ (OR.close hw)⟩
  unfold ORl
  repeat' (first | with_reducible exact Ent.refl _ | with_reducible refine Ent.take_eq ?_ ?_ | rfl | with_reducible refine Ent.trans (Ent.drop _ _) ?_)

def Or.next (s : Or) : Or := { s with last := s.last + 1 }
theorem Or.next_wf {s : Or} (h : s.Wf) (hm : s.last < 1099511627776) : s.next.Wf where
  p0 := h.p0
  pl := by have := h.pl; show s.pub ≤ s.last + 1; omega
  lm := by show s.last + 1 ≤ _; omega
  a1 := h.a1
  alo := h.alo
  ahi := fun i hi => by have := h.ahi i hi; show i ≤ s.last + 1; omega
  od := h.od
  ov := h.ov

theorem f16_ok (p : Nat) (s : Or) (hm : s.last < 1099511627776) : Spec Try.prog 16 [.pointer (some ⟨p, 0, none⟩)] [p] [OR p s] fun F v Rs' => v = .tuple #[.int .i64 (s.last + 1), .int .i64 0] ∧ Rs' = (p, OR p s.next) :: F := by
  refine spec_of Try.func16 rfl Try.ntmps16 rfl ?_
  intro w0 F
  refine OR.sc (p := p) (s := s) fun hw l q m1 m2 => ?_
  have hb := hw.p0
  have hb2 := hw.pl
  unfold ORl
  repeat' (first | with_reducible refine sw_op ?_ | with_reducible refine sw_op_ ?_ | ((with_reducible refine sw_call (f59_ok p _ _ _ _) ?_); rintro _ _ ⟨rfl, rfl⟩) | ((with_reducible refine sw_call (f60_ok l s.last) ?_); rintro _ _ ⟨rfl, rfl⟩) | ((with_reducible refine sw_call (f61_ok l s.last 1 (by omega)) ?_); rintro _ _ ⟨rfl, rfl⟩) | with_reducible refine sw_nil ?_ | with_reducible refine sq_then ?_ | with_reducible refine sc_seq ?_ | with_reducible refine sc_region ?_ | with_reducible refine sw_guard_skip ?_ | with_reducible refine sw_guard_skip_ ?_ | with_reducible refine sw_guard_run ?_ | with_reducible refine sc_cond_true ?_ | with_reducible refine sc_cond_false ?_ | with_reducible refine sc_ret ?_ | with_reducible refine sq_then_ret ?_ | with_reducible refine sc_skip ?_ | with_reducible refine sc_block ?_ | with_reducible refine sq_block ?_ | with_reducible refine sq_block_ret ?_ | with_reducible refine sc_exit ?_ | with_reducible refine sq_then_exit ?_ | with_reducible refine sq_block_exit ?_ | with_reducible refine sq_block_past ?_ | with_reducible refine sq_round_ret ?_ | with_reducible refine sq_round_exit ?_ | (with_reducible refine sc_cond (fun h => ?_) (fun h => ?_)) <;> (try (exfalso; first | contradiction | omega | exact h Iff.rfl)) | fail)
  refine sq_ret2 Try.results16 ⟨_, ⟨rfl, rfl⟩, Ent.trans (B := ORl p s.next l q m1 m2 F) ?_ (OR.close (Or.next_wf hw hm))⟩
  unfold ORl
  repeat' (first | with_reducible exact Ent.refl _ | with_reducible refine Ent.take_eq ?_ ?_ | rfl | with_reducible refine Ent.trans (Ent.drop _ _) ?_)

/-- Publish: what it leaves -/
structure Or.Pub (s : Or) (ts : Int) (s' : Or) : Prop where
  last : s'.last = s.last
  O : s'.O = s.O
  le : s.pub ≤ s'.pub
  run : ∀ i, s.pub < i → i ≤ s'.pub → i = ts ∨ s.A i = true
  A : ∀ i, s'.A i = (decide (s'.pub < i) && (decide (i = ts) || s.A i))
  wf : s'.Wf

theorem f20_bad (p : Nat) (s : Or) (ts : Int) (hb : ts ≤ s.pub ∨ s.last < ts ∨ s.A ts = true) : Spec Try.prog 20 [.pointer (some ⟨p, 0, none⟩), .int .i64 ts] [p] [OR p s] fun F v Rs' => v = .int .i64 1 ∧ Rs' = (p, OR p s) :: F := by
  refine spec_of Try.func20 rfl Try.ntmps20 rfl ?_
  intro w0 F
  refine OR.sc (p := p) (s := s) fun hw l q m1 m2 => ?_
  unfold ORl
  rcases hb with hb | hb | hb
  all_goals
    repeat' (first | with_reducible refine sw_op ?_ | with_reducible refine sw_op_ ?_ | ((with_reducible refine sw_call (f59_ok p _ _ _ _) ?_); rintro _ _ ⟨rfl, rfl⟩) | ((with_reducible refine sw_call (f60_ok l s.last) ?_); rintro _ _ ⟨rfl, rfl⟩) | ((with_reducible refine sw_call (f60_ok q s.pub) ?_); rintro _ _ ⟨rfl, rfl⟩) | with_reducible refine sw_nil ?_ | with_reducible refine sq_then ?_ | with_reducible refine sc_seq ?_ | with_reducible refine sc_region ?_ | with_reducible refine sw_guard_skip ?_ | with_reducible refine sw_guard_skip_ ?_ | with_reducible refine sw_guard_run ?_ | with_reducible refine sc_cond_true ?_ | with_reducible refine sc_cond_false ?_ | with_reducible refine sc_ret ?_ | with_reducible refine sq_then_ret ?_ | with_reducible refine sc_skip ?_ | with_reducible refine sc_block ?_ | with_reducible refine sq_block ?_ | with_reducible refine sq_block_ret ?_ | with_reducible refine sc_exit ?_ | with_reducible refine sq_then_exit ?_ | with_reducible refine sq_block_exit ?_ | with_reducible refine sq_block_past ?_ | with_reducible refine sq_round_ret ?_ | with_reducible refine sq_round_exit ?_ | (with_reducible refine sc_cond (fun h => ?_) (fun h => ?_)) <;> (try (exfalso; first | contradiction | omega | exact h Iff.rfl)) | (with_reducible refine sw_guard_split (fun h => ?_) (fun h => ?_)) <;> (try (exfalso; first | contradiction | omega | exact h Iff.rfl)) | (with_reducible refine sw_pick (fun h => ?_) (fun h => ?_)) <;> (try (exfalso; first | contradiction | omega | exact h Iff.rfl)) | fail)
    all_goals
      refine sq_ret1 Try.results20 ⟨_, ⟨rfl, rfl⟩, Ent.trans (B := ORl p s l q m1 m2 F) ?_ (OR.close hw)⟩
      unfold ORl
      repeat' (first | with_reducible exact Ent.refl _ | with_reducible refine Ent.take_eq ?_ ?_ | rfl | with_reducible refine Ent.trans (Ent.drop _ _) ?_)

/-- what the loop of Publish keeps -/
structure PubJ (s : Or) (ts : Int) (x : Int × (Int → Bool)) : Prop where
  lo : s.pub ≤ x.1
  hi : x.1 ≤ s.last
  run : ∀ i, s.pub < i → i ≤ x.1 → i = ts ∨ s.A i = true
  A : ∀ i, x.2 i = (decide (x.1 < i) && (decide (i = ts) || s.A i))

theorem PubJ.start {s : Or} {ts : Int} (hw : s.Wf) (h : s.pub < ts) : PubJ s ts (s.pub, fun j => j == ts || s.A j) where
  lo := Int.le_refl _
  hi := hw.pl
  run := fun i h1 h2 => by omega
  A := fun i => by
    have h1 := hw.alo i
    by_cases h2 : i = ts
    · subst h2; simp [h]
    · cases h3 : s.A i with
      | false => simp [h2, h3]
      | true => simp [h2, h3, h1 h3]

theorem PubJ.next {s : Or} {ts : Int} {x : Int × (Int → Bool)} (hw : s.Wf) (hts : ts ≤ s.last) (h : PubJ s ts x) (ht : x.2 (x.1 + 1) = true) : PubJ s ts (x.1 + 1, fun j => j != x.1 + 1 && x.2 j) := by
  have h0 := h.A (x.1 + 1)
  rw [ht] at h0
  have h1 : x.1 + 1 = ts ∨ s.A (x.1 + 1) = true := by
    have := h0.symm
    simp only [Bool.and_eq_true, Bool.or_eq_true, decide_eq_true_eq] at this
    exact this.2
  have h2 : x.1 + 1 ≤ s.last := by
    rcases h1 with h1 | h1
    · omega
    · exact hw.ahi _ h1
  refine ⟨by have := h.lo; show s.pub ≤ x.1 + 1; omega, h2, fun i hi1 hi2 => ?_, fun i => ?_⟩
  · by_cases hi : i = x.1 + 1
    · rw [hi]; exact h1
    · exact h.run i hi1 (by simp only at hi2; omega)
  · simp only [h.A i]
    by_cases hi : i = x.1 + 1
    · subst hi; simp
    · have : decide (x.1 + 1 < i) = decide (x.1 < i) := by simp; omega
      simp [hi, this]

theorem PubJ.done {s : Or} {ts : Int} {x : Int × (Int → Bool)} (hw : s.Wf) (hts : ts ≤ s.last) (h : PubJ s ts x) (hf : ¬ x.2 (x.1 + 1) = true) : s.Pub ts { s with pub := x.1, A := x.2 } where
  last := rfl
  O := rfl
  le := h.lo
  run := h.run
  A := h.A
  wf := {
    p0 := by have := hw.p0; have := h.lo; show 0 ≤ x.1; omega
    pl := h.hi
    lm := hw.lm
    a1 := by simpa using hf
    alo := fun i hi => by
      have h1 := h.A i
      rw [show x.2 i = true from hi] at h1
      have := h1.symm
      simp only [Bool.and_eq_true, decide_eq_true_eq] at this
      exact this.1
    ahi := fun i hi => by
      have h1 := h.A i
      rw [show x.2 i = true from hi] at h1
      have := h1.symm
      simp only [Bool.and_eq_true, Bool.or_eq_true, decide_eq_true_eq] at this
      rcases this.2 with h2 | h2
      · show i ≤ s.last; omega
      · exact hw.ahi _ h2
    od := hw.od
    ov := fun i t hi => by have := hw.ov i t hi; have := h.lo; show 0 ≤ t ∧ t ≤ x.1; omega }

theorem f20_ok (p : Nat) (s : Or) (ts : Int) (h1 : s.pub < ts) (h2 : ts ≤ s.last) (h3 : s.A ts = false) : Spec Try.prog 20 [.pointer (some ⟨p, 0, none⟩), .int .i64 ts] [p] [OR p s] fun F v Rs' => ∃ s', s.Pub ts s' ∧ v = .int .i64 0 ∧ Rs' = (p, OR p s') :: F := by
  refine spec_of Try.func20 rfl Try.ntmps20 rfl ?_
  intro w0 F
  refine OR.sc (p := p) (s := s) fun hw l q m1 m2 => ?_
  have hb := hw.p0
  have hb2 := hw.pl
  have hb3 := hw.lm
  have hA : ¬ s.A ts = true := by simp [h3]
  unfold ORl
  repeat' (first | with_reducible refine sw_i64 (by omega) ?_ | with_reducible refine sw_op ?_ | with_reducible refine sw_op_ ?_ | with_reducible refine sw_mapUpdate ?_ | ((with_reducible refine sw_call (f59_ok p _ _ _ _) ?_); rintro _ _ ⟨rfl, rfl⟩) | ((with_reducible refine sw_call (f60_ok l s.last) ?_); rintro _ _ ⟨rfl, rfl⟩) | ((with_reducible refine sw_call (f60_ok q s.pub) ?_); rintro _ _ ⟨rfl, rfl⟩) | with_reducible refine sw_nil ?_ | with_reducible refine sq_then ?_ | with_reducible refine sc_seq ?_ | with_reducible refine sc_region ?_ | with_reducible refine sw_guard_skip ?_ | with_reducible refine sw_guard_skip_ ?_ | with_reducible refine sw_guard_run ?_ | with_reducible refine sc_cond_true ?_ | with_reducible refine sc_cond_false ?_ | with_reducible refine sc_ret ?_ | with_reducible refine sq_then_ret ?_ | with_reducible refine sc_skip ?_ | with_reducible refine sc_block ?_ | with_reducible refine sq_block ?_ | with_reducible refine sq_block_ret ?_ | with_reducible refine sc_exit ?_ | with_reducible refine sq_then_exit ?_ | with_reducible refine sq_block_exit ?_ | with_reducible refine sq_block_past ?_ | with_reducible refine sq_round_ret ?_ | with_reducible refine sq_round_exit ?_ | (with_reducible refine sc_cond (fun h => ?_) (fun h => ?_)) <;> (try (exfalso; first | contradiction | omega | exact h Iff.rfl)) | (with_reducible refine sw_guard_split (fun h => ?_) (fun h => ?_)) <;> (try (exfalso; first | contradiction | omega | exact h Iff.rfl)) | (with_reducible refine sw_pick (fun h => ?_) (fun h => ?_)) <;> (try (exfalso; first | contradiction | omega | exact h Iff.rfl)) | fail)
  refine sc_loop (α := { x : Int × (Int → Bool) // PubJ s ts x }) (fun x => [(0, .pointer (some ⟨p, 0, none⟩)), (5, .int .i64 (x.1.1 + 1))]) (fun x => ORl p { s with pub := x.1.1, A := x.1.2 } l q m1 m2 F) (fun x => (s.last - x.1.1).toNat) ⟨_, PubJ.start hw h1⟩ ?_ ?_ ?_
  · exact says_cons rfl (says_cons rfl says_nil)
  · unfold ORl
    rw [bmap_put]
    repeat' (first | with_reducible exact Ent.refl _ | with_reducible refine Ent.take_eq ?_ ?_ | rfl | with_reducible refine Ent.trans (Ent.drop _ _) ?_)
  · rintro ⟨⟨u, A'⟩, hJ⟩ e
    have hj1 := hJ.lo
    have hj2 := hJ.hi
    simp only at hj1 hj2
    simp only [ORl, List.cons_append, List.nil_append]
    repeat' (first | with_reducible refine sw_i64 (by omega) ?_ | with_reducible refine sw_op ?_ | with_reducible refine sw_op_ ?_ | with_reducible refine sw_delete ?_ | ((with_reducible refine sw_call (f58_ok q _ _) ?_); rintro _ _ ⟨rfl, rfl⟩) | with_reducible refine sw_nil ?_ | with_reducible refine sq_then ?_ | with_reducible refine sc_seq ?_ | with_reducible refine sc_region ?_ | with_reducible refine sw_guard_skip ?_ | with_reducible refine sw_guard_skip_ ?_ | with_reducible refine sw_guard_run ?_ | with_reducible refine sc_cond_true ?_ | with_reducible refine sc_cond_false ?_ | with_reducible refine sc_ret ?_ | with_reducible refine sq_then_ret ?_ | with_reducible refine sc_skip ?_ | with_reducible refine sc_block ?_ | with_reducible refine sq_block ?_ | with_reducible refine sq_block_ret ?_ | with_reducible refine sc_exit ?_ | with_reducible refine sq_then_exit ?_ | with_reducible refine sq_block_exit ?_ | with_reducible refine sq_block_past ?_ | with_reducible refine sq_round_ret ?_ | with_reducible refine sq_round_exit ?_ | (with_reducible refine sc_cond (fun h => ?_) (fun h => ?_)) <;> (try (exfalso; first | contradiction | omega | exact h Iff.rfl)) | (with_reducible refine sw_guard_split (fun h => ?_) (fun h => ?_)) <;> (try (exfalso; first | contradiction | omega | exact h Iff.rfl)) | (with_reducible refine sw_pick (fun h => ?_) (fun h => ?_)) <;> (try (exfalso; first | contradiction | omega | exact h Iff.rfl)) | fail)
    · have hn := hJ.next hw h2 h
      have hn2 := hn.hi
      simp only at hn2
      refine sq_round ⟨_, hn⟩ ?_ ?_ ?_
      · show (s.last - (u + 1)).toNat < (s.last - u).toNat
        omega
      · exact says_cons rfl (says_cons rfl says_nil)
      · rw [bmap_del]
        repeat' (first | with_reducible exact Ent.refl _ | with_reducible refine Ent.take_eq ?_ ?_ | rfl | with_reducible refine Ent.trans (Ent.drop _ _) ?_)
    · have hd := hJ.done hw h2 h
      refine sq_ret1 Try.results20 ⟨_, ⟨_, hd, rfl, rfl⟩, Ent.trans (B := ORl p { s with pub := u, A := A' } l q m1 m2 F) ?_ (OR.close hd.wf)⟩
      unfold ORl
      repeat' (first | with_reducible exact Ent.refl _ | with_reducible refine Ent.take_eq ?_ ?_ | rfl | with_reducible refine Ent.trans (Ent.drop _ _) ?_)

/-! sessions -/
theorem f62_bad (p : Nat) (s : Or) (x : Int) (hx : x < 0 ∨ 16 < x) : Spec Try.prog 62 [.pointer (some ⟨p, 0, none⟩), .int .i64 x] [p] [OR p s] fun F v Rs' => v = .int .i64 1 ∧ Rs' = (p, OR p s) :: F := by
  refine spec_of Try.func62 rfl Try.ntmps62 rfl ?_
  intro w0 F
  refine OR.sc (p := p) (s := s) fun hw l q m1 m2 => ?_
  unfold ORl
  repeat' (first | with_reducible refine sw_op ?_ | with_reducible refine sw_op_ ?_ | ((with_reducible refine sw_call (f59_ok p _ _ _ _) ?_); rintro _ _ ⟨rfl, rfl⟩) | with_reducible refine sw_nil ?_ | with_reducible refine sq_then ?_ | with_reducible refine sc_seq ?_ | with_reducible refine sc_region ?_ | with_reducible refine sw_guard_skip ?_ | with_reducible refine sw_guard_skip_ ?_ | with_reducible refine sw_guard_run ?_ | with_reducible refine sc_cond_true ?_ | with_reducible refine sc_cond_false ?_ | with_reducible refine sc_ret ?_ | with_reducible refine sq_then_ret ?_ | with_reducible refine sc_skip ?_ | with_reducible refine sc_block ?_ | with_reducible refine sq_block ?_ | with_reducible refine sq_block_ret ?_ | with_reducible refine sc_exit ?_ | with_reducible refine sq_then_exit ?_ | with_reducible refine sq_block_exit ?_ | with_reducible refine sq_block_past ?_ | with_reducible refine sq_round_ret ?_ | with_reducible refine sq_round_exit ?_ | (with_reducible refine sc_cond (fun h => ?_) (fun h => ?_)) <;> (try (exfalso; first | contradiction | omega | exact h Iff.rfl)) | (with_reducible refine sw_guard_split (fun h => ?_) (fun h => ?_)) <;> (try (exfalso; first | contradiction | omega | exact h Iff.rfl)) | (with_reducible refine sw_pick (fun h => ?_) (fun h => ?_)) <;> (try (exfalso; first | contradiction | omega | exact h Iff.rfl)) | fail)
  all_goals
    refine sq_ret1 Try.results62 ⟨_, ⟨rfl, rfl⟩, Ent.trans (B := ORl p s l q m1 m2 F) ?_ (OR.close hw)⟩
    unfold ORl
    repeat' (first | with_reducible exact Ent.refl _ | with_reducible refine Ent.take_eq ?_ ?_ | rfl | with_reducible refine Ent.trans (Ent.drop _ _) ?_)

theorem f62_ok (p : Nat) (s : Or) (x : Int) (h0 : 0 ≤ x) (h1 : x ≤ 16) : Spec Try.prog 62 [.pointer (some ⟨p, 0, none⟩), .int .i64 x] [p] [OR p s] fun F v Rs' => v = .int .i64 0 ∧ Rs' = (p, OR p s) :: F := by
  refine spec_of Try.func62 rfl Try.ntmps62 rfl ?_
  intro w0 F
  refine OR.sc (p := p) (s := s) fun hw l q m1 m2 => ?_
  unfold ORl
  repeat' (first | with_reducible refine sw_op ?_ | with_reducible refine sw_op_ ?_ | ((with_reducible refine sw_call (f59_ok p _ _ _ _) ?_); rintro _ _ ⟨rfl, rfl⟩) | with_reducible refine sw_nil ?_ | with_reducible refine sq_then ?_ | with_reducible refine sc_seq ?_ | with_reducible refine sc_region ?_ | with_reducible refine sw_guard_skip ?_ | with_reducible refine sw_guard_skip_ ?_ | with_reducible refine sw_guard_run ?_ | with_reducible refine sc_cond_true ?_ | with_reducible refine sc_cond_false ?_ | with_reducible refine sc_ret ?_ | with_reducible refine sq_then_ret ?_ | with_reducible refine sc_skip ?_ | with_reducible refine sc_block ?_ | with_reducible refine sq_block ?_ | with_reducible refine sq_block_ret ?_ | with_reducible refine sc_exit ?_ | with_reducible refine sq_then_exit ?_ | with_reducible refine sq_block_exit ?_ | with_reducible refine sq_block_past ?_ | with_reducible refine sq_round_ret ?_ | with_reducible refine sq_round_exit ?_ | (with_reducible refine sc_cond (fun h => ?_) (fun h => ?_)) <;> (try (exfalso; first | contradiction | omega | exact h Iff.rfl)) | (with_reducible refine sw_guard_split (fun h => ?_) (fun h => ?_)) <;> (try (exfalso; first | contradiction | omega | exact h Iff.rfl)) | (with_reducible refine sw_pick (fun h => ?_) (fun h => ?_)) <;> (try (exfalso; first | contradiction | omega | exact h Iff.rfl)) | fail)
  all_goals
    refine sq_ret1 Try.results62 ⟨_, ⟨rfl, rfl⟩, Ent.trans (B := ORl p s l q m1 m2 F) ?_ (OR.close hw)⟩
    unfold ORl
    repeat' (first | with_reducible exact Ent.refl _ | with_reducible refine Ent.take_eq ?_ ?_ | rfl | with_reducible refine Ent.trans (Ent.drop _ _) ?_)

/-- Open -/
theorem f23_bad (p : Nat) (s : Or) (x : Int) (hx : x < 0 ∨ 16 < x) : Spec Try.prog 23 [.pointer (some ⟨p, 0, none⟩), .int .i64 x] [p] [OR p s] fun F v Rs' => v = .tuple #[.int .i64 0, .int .i64 1] ∧ Rs' = (p, OR p s) :: F := by
  refine spec_of Try.func23 rfl Try.ntmps23 rfl ?_
  intro w0 F
  repeat' (first | with_reducible refine sw_op ?_ | with_reducible refine sw_op_ ?_ | ((with_reducible refine sw_call (f62_bad p s x hx) ?_); rintro _ _ ⟨rfl, rfl⟩) | with_reducible refine sw_nil ?_ | with_reducible refine sq_then ?_ | with_reducible refine sc_seq ?_ | with_reducible refine sc_region ?_ | with_reducible refine sw_guard_skip ?_ | with_reducible refine sw_guard_skip_ ?_ | with_reducible refine sw_guard_run ?_ | with_reducible refine sc_cond_true ?_ | with_reducible refine sc_cond_false ?_ | with_reducible refine sc_ret ?_ | with_reducible refine sq_then_ret ?_ | with_reducible refine sc_skip ?_ | with_reducible refine sc_block ?_ | with_reducible refine sq_block ?_ | with_reducible refine sq_block_ret ?_ | with_reducible refine sc_exit ?_ | with_reducible refine sq_then_exit ?_ | with_reducible refine sq_block_exit ?_ | with_reducible refine sq_block_past ?_ | with_reducible refine sq_round_ret ?_ | with_reducible refine sq_round_exit ?_ | (with_reducible refine sc_cond (fun h => ?_) (fun h => ?_)) <;> (try (exfalso; first | contradiction | omega | exact h Iff.rfl)) | (with_reducible refine sw_guard_split (fun h => ?_) (fun h => ?_)) <;> (try (exfalso; first | contradiction | omega | exact h Iff.rfl)) | (with_reducible refine sw_pick (fun h => ?_) (fun h => ?_)) <;> (try (exfalso; first | contradiction | omega | exact h Iff.rfl)) | fail)
  exact sq_ret2 Try.results23 ⟨_, ⟨rfl, rfl⟩, Ent.refl _⟩

theorem f23_open (p : Nat) (s : Or) (x t : Int) (h0 : 0 ≤ x) (h1 : x ≤ 16) (ht : s.O x = some t) : Spec Try.prog 23 [.pointer (some ⟨p, 0, none⟩), .int .i64 x] [p] [OR p s] fun F v Rs' => v = .tuple #[.int .i64 0, .int .i64 140] ∧ Rs' = (p, OR p s) :: F := by
  refine spec_of Try.func23 rfl Try.ntmps23 rfl ?_
  intro w0 F
  repeat' (first | with_reducible refine sw_op ?_ | with_reducible refine sw_op_ ?_ | ((with_reducible refine sw_call (f62_ok p s x h0 h1) ?_); rintro _ _ ⟨rfl, rfl⟩) | with_reducible refine sw_nil ?_ | with_reducible refine sq_then ?_ | with_reducible refine sc_seq ?_ | with_reducible refine sc_region ?_ | with_reducible refine sw_guard_skip ?_ | with_reducible refine sw_guard_skip_ ?_ | with_reducible refine sw_guard_run ?_ | with_reducible refine sc_cond_true ?_ | with_reducible refine sc_cond_false ?_ | with_reducible refine sc_ret ?_ | with_reducible refine sq_then_ret ?_ | with_reducible refine sc_skip ?_ | with_reducible refine sc_block ?_ | with_reducible refine sq_block ?_ | with_reducible refine sq_block_ret ?_ | with_reducible refine sc_exit ?_ | with_reducible refine sq_then_exit ?_ | with_reducible refine sq_block_exit ?_ | with_reducible refine sq_block_past ?_ | with_reducible refine sq_round_ret ?_ | with_reducible refine sq_round_exit ?_ | (with_reducible refine sc_cond (fun h => ?_) (fun h => ?_)) <;> (try (exfalso; first | contradiction | omega | exact h Iff.rfl)) | (with_reducible refine sw_guard_split (fun h => ?_) (fun h => ?_)) <;> (try (exfalso; first | contradiction | omega | exact h Iff.rfl)) | (with_reducible refine sw_pick (fun h => ?_) (fun h => ?_)) <;> (try (exfalso; first | contradiction | omega | exact h Iff.rfl)) | fail)
  refine OR.sw (p := p) (s := s) fun hw l q m1 m2 => ?_
  unfold ORl
  repeat' (first | with_reducible refine sw_op ?_ | with_reducible refine sw_op_ ?_ | with_reducible refine sw_nil ?_ | with_reducible refine sq_then ?_ | with_reducible refine sc_seq ?_ | with_reducible refine sc_region ?_ | with_reducible refine sw_guard_skip ?_ | with_reducible refine sw_guard_skip_ ?_ | with_reducible refine sw_guard_run ?_ | with_reducible refine sc_cond_true ?_ | with_reducible refine sc_cond_false ?_ | with_reducible refine sc_ret ?_ | with_reducible refine sq_then_ret ?_ | with_reducible refine sc_skip ?_ | with_reducible refine sc_block ?_ | with_reducible refine sq_block ?_ | with_reducible refine sq_block_ret ?_ | with_reducible refine sc_exit ?_ | with_reducible refine sq_then_exit ?_ | with_reducible refine sq_block_exit ?_ | with_reducible refine sq_block_past ?_ | with_reducible refine sq_round_ret ?_ | with_reducible refine sq_round_exit ?_ | fail)
  rw [ht]
  repeat' (first | with_reducible refine sw_op ?_ | with_reducible refine sw_op_ ?_ | with_reducible refine sw_nil ?_ | with_reducible refine sq_then ?_ | with_reducible refine sc_seq ?_ | with_reducible refine sc_region ?_ | with_reducible refine sw_guard_skip ?_ | with_reducible refine sw_guard_skip_ ?_ | with_reducible refine sw_guard_run ?_ | with_reducible refine sc_cond_true ?_ | with_reducible refine sc_cond_false ?_ | with_reducible refine sc_ret ?_ | with_reducible refine sq_then_ret ?_ | with_reducible refine sc_skip ?_ | with_reducible refine sc_block ?_ | with_reducible refine sq_block ?_ | with_reducible refine sq_block_ret ?_ | with_reducible refine sc_exit ?_ | with_reducible refine sq_then_exit ?_ | with_reducible refine sq_block_exit ?_ | with_reducible refine sq_block_past ?_ | with_reducible refine sq_round_ret ?_ | with_reducible refine sq_round_exit ?_ | (with_reducible refine sc_cond (fun h => ?_) (fun h => ?_)) <;> (try (exfalso; first | contradiction | omega | exact h Iff.rfl)) | fail)
  refine sq_ret2 Try.results23 ⟨_, ⟨rfl, rfl⟩, Ent.trans (B := ORl p s l q m1 m2 F) ?_ (OR.close hw)⟩
  unfold ORl
  repeat' (first | with_reducible exact Ent.refl _ | with_reducible refine Ent.take_eq ?_ ?_ | rfl | with_reducible refine Ent.trans (Ent.drop _ _) ?_)

def Or.opened (s : Or) (x : Int) : Or := { s with O := fun j => if j = x then some s.pub else s.O j }
theorem Or.opened_wf {s : Or} (h : s.Wf) {x : Int} (h0 : 0 ≤ x) (h1 : x ≤ 16) : (s.opened x).Wf where
  p0 := h.p0
  pl := h.pl
  lm := h.lm
  a1 := h.a1
  alo := h.alo
  ahi := h.ahi
  od := fun i t hi => by
    simp only [Or.opened] at hi
    split at hi
    · omega
    · exact h.od i t hi
  ov := fun i t hi => by
    simp only [Or.opened] at hi
    split at hi
    · have := h.p0
      simp only [Option.some.injEq] at hi
      show 0 ≤ t ∧ t ≤ s.pub
      omega
    · exact h.ov i t hi

theorem f23_ok (p : Nat) (s : Or) (x : Int) (h0 : 0 ≤ x) (h1 : x ≤ 16) (ht : s.O x = none) : Spec Try.prog 23 [.pointer (some ⟨p, 0, none⟩), .int .i64 x] [p] [OR p s] fun F v Rs' => v = .tuple #[.int .i64 s.pub, .int .i64 0] ∧ Rs' = (p, OR p (s.opened x)) :: F := by
  refine spec_of Try.func23 rfl Try.ntmps23 rfl ?_
  intro w0 F
  repeat' (first | with_reducible refine sw_op ?_ | with_reducible refine sw_op_ ?_ | ((with_reducible refine sw_call (f62_ok p s x h0 h1) ?_); rintro _ _ ⟨rfl, rfl⟩) | with_reducible refine sw_nil ?_ | with_reducible refine sq_then ?_ | with_reducible refine sc_seq ?_ | with_reducible refine sc_region ?_ | with_reducible refine sw_guard_skip ?_ | with_reducible refine sw_guard_skip_ ?_ | with_reducible refine sw_guard_run ?_ | with_reducible refine sc_cond_true ?_ | with_reducible refine sc_cond_false ?_ | with_reducible refine sc_ret ?_ | with_reducible refine sq_then_ret ?_ | with_reducible refine sc_skip ?_ | with_reducible refine sc_block ?_ | with_reducible refine sq_block ?_ | with_reducible refine sq_block_ret ?_ | with_reducible refine sc_exit ?_ | with_reducible refine sq_then_exit ?_ | with_reducible refine sq_block_exit ?_ | with_reducible refine sq_block_past ?_ | with_reducible refine sq_round_ret ?_ | with_reducible refine sq_round_exit ?_ | (with_reducible refine sc_cond (fun h => ?_) (fun h => ?_)) <;> (try (exfalso; first | contradiction | omega | exact h Iff.rfl)) | (with_reducible refine sw_guard_split (fun h => ?_) (fun h => ?_)) <;> (try (exfalso; first | contradiction | omega | exact h Iff.rfl)) | (with_reducible refine sw_pick (fun h => ?_) (fun h => ?_)) <;> (try (exfalso; first | contradiction | omega | exact h Iff.rfl)) | fail)
  refine OR.sw (p := p) (s := s) fun hw l q m1 m2 => ?_
  unfold ORl
  repeat' (first | with_reducible refine sw_op ?_ | with_reducible refine sw_op_ ?_ | with_reducible refine sw_nil ?_ | with_reducible refine sq_then ?_ | with_reducible refine sc_seq ?_ | with_reducible refine sc_region ?_ | with_reducible refine sw_guard_skip ?_ | with_reducible refine sw_guard_skip_ ?_ | with_reducible refine sw_guard_run ?_ | with_reducible refine sc_cond_true ?_ | with_reducible refine sc_cond_false ?_ | with_reducible refine sc_ret ?_ | with_reducible refine sq_then_ret ?_ | with_reducible refine sc_skip ?_ | with_reducible refine sc_block ?_ | with_reducible refine sq_block ?_ | with_reducible refine sq_block_ret ?_ | with_reducible refine sc_exit ?_ | with_reducible refine sq_then_exit ?_ | with_reducible refine sq_block_exit ?_ | with_reducible refine sq_block_past ?_ | with_reducible refine sq_round_ret ?_ | with_reducible refine sq_round_exit ?_ | fail)
  rw [ht]
  repeat' (first | with_reducible refine sw_op ?_ | with_reducible refine sw_op_ ?_ | with_reducible refine sw_nil ?_ | with_reducible refine sq_then ?_ | with_reducible refine sc_seq ?_ | with_reducible refine sc_region ?_ | with_reducible refine sw_guard_skip ?_ | with_reducible refine sw_guard_skip_ ?_ | with_reducible refine sw_guard_run ?_ | with_reducible refine sc_cond_true ?_ | with_reducible refine sc_cond_false ?_ | with_reducible refine sc_ret ?_ | with_reducible refine sq_then_ret ?_ | with_reducible refine sc_skip ?_ | with_reducible refine sc_block ?_ | with_reducible refine sq_block ?_ | with_reducible refine sq_block_ret ?_ | with_reducible refine sc_exit ?_ | with_reducible refine sq_then_exit ?_ | with_reducible refine sq_block_exit ?_ | with_reducible refine sq_block_past ?_ | with_reducible refine sq_round_ret ?_ | with_reducible refine sq_round_exit ?_ | (with_reducible refine sc_cond (fun h => ?_) (fun h => ?_)) <;> (try (exfalso; first | contradiction | omega | exact h Iff.rfl)) | fail)
  refine sc_drawG (m := 8) ([(p, pts p (orow l q m1 m2))]) (by kernel_rfl) rfl ?_
  all_goals (first | refine sg_take 0 (by repeat' (first | with_reducible exact calm_post | with_reducible refine Calm.then ?_ | with_reducible refine Calm.block ?_ | with_reducible refine Calm.round ?_ | with_reducible refine Calm.mark ?_)) rfl (by kernel_rfl) (by kernel_rfl) (by kernel_rfl) ?_)
  all_goals (first | refine sg_take 1 (by repeat' (first | with_reducible exact calm_post | with_reducible refine Calm.then ?_ | with_reducible refine Calm.block ?_ | with_reducible refine Calm.round ?_ | with_reducible refine Calm.mark ?_)) rfl (by kernel_rfl) (by kernel_rfl) (by kernel_rfl) ?_)
  all_goals (first | refine sg_take 2 (by repeat' (first | with_reducible exact calm_post | with_reducible refine Calm.then ?_ | with_reducible refine Calm.block ?_ | with_reducible refine Calm.round ?_ | with_reducible refine Calm.mark ?_)) rfl (by kernel_rfl) (by kernel_rfl) (by kernel_rfl) ?_)
  all_goals (first | refine sg_take 3 (by repeat' (first | with_reducible exact calm_post | with_reducible refine Calm.then ?_ | with_reducible refine Calm.block ?_ | with_reducible refine Calm.round ?_ | with_reducible refine Calm.mark ?_)) rfl (by kernel_rfl) (by kernel_rfl) (by kernel_rfl) ?_)
  all_goals (first | refine sg_take 4 (by repeat' (first | with_reducible exact calm_post | with_reducible refine Calm.then ?_ | with_reducible refine Calm.block ?_ | with_reducible refine Calm.round ?_ | with_reducible refine Calm.mark ?_)) rfl (by kernel_rfl) (by kernel_rfl) (by kernel_rfl) ?_)
  all_goals (first | refine sg_take 5 (by repeat' (first | with_reducible exact calm_post | with_reducible refine Calm.then ?_ | with_reducible refine Calm.block ?_ | with_reducible refine Calm.round ?_ | with_reducible refine Calm.mark ?_)) rfl (by kernel_rfl) (by kernel_rfl) (by kernel_rfl) ?_)
  all_goals (refine sg_one 6 rfl (by kernel_rfl) rfl ?_)
  all_goals (repeat' (first | with_reducible refine sw_op ?_ | with_reducible refine sw_op_ ?_ | with_reducible refine sw_mapUpdate ?_ | ((with_reducible refine sw_call (f18_raw p l q m1 m2 s.pub) ?_); rintro _ _ ⟨rfl, rfl⟩) | with_reducible refine sg_back ?_ | with_reducible refine sw_nil ?_ | with_reducible refine sq_then ?_ | with_reducible refine sc_seq ?_ | with_reducible refine sc_region ?_ | with_reducible refine sw_guard_skip ?_ | with_reducible refine sw_guard_skip_ ?_ | with_reducible refine sw_guard_run ?_ | with_reducible refine sc_cond_true ?_ | with_reducible refine sc_cond_false ?_ | with_reducible refine sc_ret ?_ | with_reducible refine sq_then_ret ?_ | with_reducible refine sc_skip ?_ | with_reducible refine sc_block ?_ | with_reducible refine sq_block ?_ | with_reducible refine sq_block_ret ?_ | with_reducible refine sc_exit ?_ | with_reducible refine sq_then_exit ?_ | with_reducible refine sq_block_exit ?_ | with_reducible refine sq_block_past ?_ | with_reducible refine sq_round_ret ?_ | with_reducible refine sq_round_exit ?_ | fail))
  all_goals (refine sg_one 7 rfl (by kernel_rfl) rfl ?_)
  all_goals (repeat' (first | with_reducible refine sw_op ?_ | with_reducible refine sw_op_ ?_ | with_reducible refine sw_mapUpdate ?_ | ((with_reducible refine sw_call (f18_raw p l q m1 m2 s.pub) ?_); rintro _ _ ⟨rfl, rfl⟩) | with_reducible refine sg_back ?_ | with_reducible refine sw_nil ?_ | with_reducible refine sq_then ?_ | with_reducible refine sc_seq ?_ | with_reducible refine sc_region ?_ | with_reducible refine sw_guard_skip ?_ | with_reducible refine sw_guard_skip_ ?_ | with_reducible refine sw_guard_run ?_ | with_reducible refine sc_cond_true ?_ | with_reducible refine sc_cond_false ?_ | with_reducible refine sc_ret ?_ | with_reducible refine sq_then_ret ?_ | with_reducible refine sc_skip ?_ | with_reducible refine sc_block ?_ | with_reducible refine sq_block ?_ | with_reducible refine sq_block_ret ?_ | with_reducible refine sc_exit ?_ | with_reducible refine sq_then_exit ?_ | with_reducible refine sq_block_exit ?_ | with_reducible refine sq_block_past ?_ | with_reducible refine sq_round_ret ?_ | with_reducible refine sq_round_exit ?_ | fail))
  all_goals (refine sg_done (by kernel_rfl) rfl ?_)
  rw [imap_put]
  repeat' (first | with_reducible refine sw_op ?_ | with_reducible refine sw_op_ ?_ | with_reducible refine sw_nil ?_ | with_reducible refine sq_then ?_ | with_reducible refine sc_seq ?_ | with_reducible refine sc_region ?_ | with_reducible refine sw_guard_skip ?_ | with_reducible refine sw_guard_skip_ ?_ | with_reducible refine sw_guard_run ?_ | with_reducible refine sc_cond_true ?_ | with_reducible refine sc_cond_false ?_ | with_reducible refine sc_ret ?_ | with_reducible refine sq_then_ret ?_ | with_reducible refine sc_skip ?_ | with_reducible refine sc_block ?_ | with_reducible refine sq_block ?_ | with_reducible refine sq_block_ret ?_ | with_reducible refine sc_exit ?_ | with_reducible refine sq_then_exit ?_ | with_reducible refine sq_block_exit ?_ | with_reducible refine sq_block_past ?_ | with_reducible refine sq_round_ret ?_ | with_reducible refine sq_round_exit ?_ | fail)
  rw [if_pos rfl]
  refine sq_ret2 Try.results23 ⟨_, ⟨rfl, rfl⟩, Ent.trans (B := ORl p (s.opened x) l q m1 m2 F) ?_ (OR.close (Or.opened_wf hw h0 h1))⟩
  unfold ORl
  repeat' (first | with_reducible exact Ent.refl _ | with_reducible refine Ent.take_eq ?_ ?_ | rfl | with_reducible refine Ent.trans (Ent.drop _ _) ?_)

end Go.Gsl
