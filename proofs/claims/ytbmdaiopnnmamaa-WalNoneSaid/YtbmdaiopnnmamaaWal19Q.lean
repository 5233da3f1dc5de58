/- The log: what no call made. -/
import Derived.Test.YtbmdaiopnnmamaaWal18Q
namespace Go.Gsl
set_option linter.unusedVariables false
open Go.Proofs Go.RowKit Go.ChangeShapes Go.WideShapes
set_option maxHeartbeats 4000000
abbrev lzero : List Value := [.pointer none, .int .i64 0, .int .i64 0, .int .i64 0, .int .i64 0, .int .i64 0, .slice none 0 0, .slice none 0 0, .int .i64 0, .int .i64 0, .int .i64 0, .int .i64 0, .slice none 0 0, .int .i64 0, .int .i64 0, .bool false]
/-- a log that no call made: nil, or an empty one -/
def DeadL (q : Option Addr) : HProp := fun h => ∃ o : Option Nat, q = o.map (fun p => (⟨p, 0, none⟩ : Addr)) ∧ (match o with | none => True | some p => pts p (.cells lzero.toArray 80 (0, 0)) h)
theorem sc_rekey {P : Program} {Q : Cont} {n : Nat} {w0 : World} {e : Env} {c : Code} {k : Nat} {r : HProp} {F : List Res} (k' : Nat) (q : SC P Q n w0 c e ((k', r) :: F)) : SC P Q n w0 c e ((k, r) :: F) := fun w hw => q w hw
theorem bag0 {F : List Res} : Ent F ((7007, Bag (rbag [])) :: F) := fun h hh => ⟨fun _ => none, h, fun _ => .inl rfl, by funext i; simp [hjoin], Bag.nil _, hh⟩
section
variable (q : Option Addr)
theorem wNone_dead : Spec Try.prog 77 [.pointer q] [7010] [DeadL q] fun F w Rs' => w = .bool true ∧ Rs' = (7010, DeadL q) :: F := by
  refine spec_of Try.func77 rfl Try.ntmps77 rfl ?_
  intro w0 F
  refine sc_opn (k := 7010) (fun o : Option Nat => q = o.map (fun p => (⟨p, 0, none⟩ : Addr))) (fun o h => match o with | none => True | some p => pts p (.cells lzero.toArray 80 (0, 0)) h) (fun x hx => hx) fun o ho => ?_
  subst ho
  cases o with
  | none =>
    dsimp only [Option.map]
    repeat' (first | with_reducible (first | refine go1 ?_ | refine sct ?_ | refine scf ?_ | refine sgr ?_) | with_reducible refine sw_guard_skip_u ?_ | (with_reducible refine sw_guard_split (fun h => ?_) (fun h => ?_)) <;> (try (exfalso; first | contradiction | omega | exact h Iff.rfl)) | (with_reducible refine sw_pick (fun h => ?_) (fun h => ?_)) <;> (try (exfalso; first | contradiction | omega | exact h Iff.rfl)) | fail)
    refine sq_ret1 Try.results77 ?_
    exact ⟨_, ⟨rfl, rfl⟩, Ent.head fun h _ => ⟨none, rfl, trivial⟩⟩
  | some p =>
    refine sc_rekey p ?_
    dsimp only [Option.map]
    repeat' (first | with_reducible (first | refine go1 ?_ | refine sct ?_ | refine scf ?_ | refine sgr ?_) | with_reducible refine sw_guard_skip_u ?_ | (with_reducible refine sw_guard_split (fun h => ?_) (fun h => ?_)) <;> (try (exfalso; first | contradiction | omega | exact h Iff.rfl)) | (with_reducible refine sw_pick (fun h => ?_) (fun h => ?_)) <;> (try (exfalso; first | contradiction | omega | exact h Iff.rfl)) | fail)
    refine sq_ret1 Try.results77 ?_
    exact ⟨_, ⟨rfl, rfl⟩, Ent.rekey 7010 fun h hh => ⟨some p, rfl, hh⟩⟩
theorem wAppend_dead (k : Nat) (r : HProp) (v : Value) (hv : One v) : Spec Try.prog 34 [.pointer q, v] [7010, k] [DeadL q, r] fun F w Rs' => w = .tuple #[.int .i64 0, .int .i64 2] ∧ Rs' = (7010, DeadL q) :: (k, r) :: F := by
  refine spec_of Try.func34 rfl Try.ntmps34 rfl ?_
  intro w0 F
  repeat' (first | with_reducible (first | refine go1 ?_ | refine sct ?_ | refine scf ?_ | refine sgr ?_) | ((with_reducible refine sw_call (wNone_dead q) ?_); rintro _ _ ⟨rfl, rfl⟩) | fail)
  refine sq_ret2 Try.results34 ?_
  exact ⟨_, ⟨rfl, rfl⟩, Ent.refl _⟩
theorem wFlush_dead : Spec Try.prog 41 [.pointer q] [7010] [DeadL q] fun F w Rs' => w = .int .i64 2 ∧ Rs' = (7010, DeadL q) :: F := by
  refine spec_of Try.func41 rfl Try.ntmps41 rfl ?_
  intro w0 F
  repeat' (first | with_reducible (first | refine go1 ?_ | refine sct ?_ | refine scf ?_ | refine sgr ?_) | ((with_reducible refine sw_call (wNone_dead q) ?_); rintro _ _ ⟨rfl, rfl⟩) | fail)
  refine sq_ret1 Try.results41 ?_
  exact ⟨_, ⟨rfl, rfl⟩, Ent.refl _⟩
theorem wTruncate_dead (m : Mk) : Spec Try.prog 42 [.pointer q, .agg m.cs.toArray] [7010] [DeadL q] fun F w Rs' => w = .int .i64 2 ∧ Rs' = (7010, DeadL q) :: F := by
  unfold Mk.cs
  refine spec_of Try.func42 rfl Try.ntmps42 rfl ?_
  intro w0 F
  repeat' (first | with_reducible (first | refine go1 ?_ | refine sct ?_ | refine scf ?_ | refine sgr ?_) | fail)
  refine sw_box fun b => ?_
  repeat' (first | with_reducible (first | refine go1 ?_ | refine sct ?_ | refine scf ?_ | refine sgr ?_) | ((with_reducible refine sw_call (wNone_dead q) ?_); rintro _ _ ⟨rfl, rfl⟩) | fail)
  refine sq_ret1 Try.results42 ?_
  refine ⟨_, ⟨rfl, rfl⟩, ?_⟩
  repeat' (first | with_reducible exact Ent.refl _ | with_reducible refine Ent.take_eq ?_ ?_ | rfl | with_reducible refine Ent.oR ?_ | with_reducible refine Ent.trans (Ent.drop _ _) ?_)
theorem wFlushed_dead : Spec Try.prog 45 [.pointer q] [7010] [DeadL q] fun F w Rs' => w = .int .i64 0 ∧ Rs' = (7010, DeadL q) :: F := by
  refine spec_of Try.func45 rfl Try.ntmps45 rfl ?_
  intro w0 F
  repeat' (first | with_reducible (first | refine go1 ?_ | refine sct ?_ | refine scf ?_ | refine sgr ?_) | ((with_reducible refine sw_call (wNone_dead q) ?_); rintro _ _ ⟨rfl, rfl⟩) | fail)
  refine sq_ret1 Try.results45 ?_
  exact ⟨_, ⟨rfl, rfl⟩, Ent.refl _⟩
theorem wRoom_dead : Spec Try.prog 46 [.pointer q] [7010] [DeadL q] fun F w Rs' => w = .int .i64 0 ∧ Rs' = (7010, DeadL q) :: F := by
  refine spec_of Try.func46 rfl Try.ntmps46 rfl ?_
  intro w0 F
  repeat' (first | with_reducible (first | refine go1 ?_ | refine sct ?_ | refine scf ?_ | refine sgr ?_) | ((with_reducible refine sw_call (wNone_dead q) ?_); rintro _ _ ⟨rfl, rfl⟩) | fail)
  refine sq_ret1 Try.results46 ?_
  exact ⟨_, ⟨rfl, rfl⟩, Ent.refl _⟩
theorem wMark_dead : Spec Try.prog 43 [.pointer q] [7010] [DeadL q] fun F w Rs' => w = .agg (Mk.cs ⟨0, 0, 0, 0⟩).toArray ∧ Rs' = (7010, DeadL q) :: F := by
  refine spec_of Try.func43 rfl Try.ntmps43 rfl ?_
  intro w0 F
  repeat' (first | with_reducible (first | refine go1 ?_ | refine sct ?_ | refine scf ?_ | refine sgr ?_) | fail)
  refine sw_alloc fun b => ?_
  repeat' (first | with_reducible (first | refine go1 ?_ | refine sct ?_ | refine scf ?_ | refine sgr ?_) | ((with_reducible refine sw_call (wNone_dead q) ?_); rintro _ _ ⟨rfl, rfl⟩) | fail)
  refine sw_build (Mk.cs ⟨0, 0, 0, 0⟩) (by kernel_rfl) ?_
  unfold Mk.cs
  refine sw_store_agg ?_
  repeat' (first | with_reducible (first | refine go1 ?_ | refine sct ?_ | refine scf ?_ | refine sgr ?_) | fail)
  refine sq_resA Try.results43 (by first | exact .inl rfl | exact .inr rfl) rfl ?_
  refine ⟨_, ⟨rfl, rfl⟩, ?_⟩
  repeat' (first | with_reducible exact Ent.refl _ | with_reducible refine Ent.take_eq ?_ ?_ | rfl | with_reducible refine Ent.oR ?_ | with_reducible refine Ent.trans (Ent.drop _ _) ?_)
theorem wFirst_dead : Spec Try.prog 44 [.pointer q] [7010] [DeadL q] fun F w Rs' => w = .agg (Mk.cs ⟨0, 0, 0, 0⟩).toArray ∧ Rs' = (7010, DeadL q) :: F := by
  refine spec_of Try.func44 rfl Try.ntmps44 rfl ?_
  intro w0 F
  repeat' (first | with_reducible (first | refine go1 ?_ | refine sct ?_ | refine scf ?_ | refine sgr ?_) | fail)
  refine sw_alloc fun b => ?_
  repeat' (first | with_reducible (first | refine go1 ?_ | refine sct ?_ | refine scf ?_ | refine sgr ?_) | ((with_reducible refine sw_call (wNone_dead q) ?_); rintro _ _ ⟨rfl, rfl⟩) | fail)
  refine sw_build (Mk.cs ⟨0, 0, 0, 0⟩) (by kernel_rfl) ?_
  unfold Mk.cs
  refine sw_store_agg ?_
  repeat' (first | with_reducible (first | refine go1 ?_ | refine sct ?_ | refine scf ?_ | refine sgr ?_) | fail)
  refine sq_resA Try.results44 (by first | exact .inl rfl | exact .inr rfl) rfl ?_
  refine ⟨_, ⟨rfl, rfl⟩, ?_⟩
  repeat' (first | with_reducible exact Ent.refl _ | with_reducible refine Ent.take_eq ?_ ?_ | rfl | with_reducible refine Ent.oR ?_ | with_reducible refine Ent.trans (Ent.drop _ _) ?_)
theorem wPlace_dead (x : Int) : Spec Try.prog 40 [.pointer q, .int .i64 x] [7010] [DeadL q] fun F w Rs' => w = .tuple #[.agg (Mk.cs ⟨0, 0, 0, 0⟩).toArray, .bool false] ∧ Rs' = (7010, DeadL q) :: F := by
  refine spec_of Try.func40 rfl Try.ntmps40 rfl ?_
  intro w0 F
  repeat' (first | with_reducible (first | refine go1 ?_ | refine sct ?_ | refine scf ?_ | refine sgr ?_) | fail)
  refine sw_alloc fun b => ?_
  repeat' (first | with_reducible (first | refine go1 ?_ | refine sct ?_ | refine scf ?_ | refine sgr ?_) | ((with_reducible refine sw_call (wNone_dead q) ?_); rintro _ _ ⟨rfl, rfl⟩) | with_reducible refine sw_guard_skip_u ?_ | fail)
  refine sw_build (Mk.cs ⟨0, 0, 0, 0⟩) (by kernel_rfl) ?_
  unfold Mk.cs
  refine sw_store_agg ?_
  repeat' (first | with_reducible (first | refine go1 ?_ | refine sct ?_ | refine scf ?_ | refine sgr ?_) | fail)
  refine sq_resAT Try.results40 (by first | exact .inl rfl | exact .inr rfl) rfl ?_
  refine ⟨_, ⟨rfl, rfl⟩, ?_⟩
  repeat' (first | with_reducible exact Ent.refl _ | with_reducible refine Ent.take_eq ?_ ?_ | rfl | with_reducible refine Ent.oR ?_ | with_reducible refine Ent.trans (Ent.drop _ _) ?_)
theorem nothing_dead : Spec Try.prog 47 [.pointer q] [7010] [DeadL q] fun F w Rs' => w = .bool true ∧ Rs' = (7010, DeadL q) :: F := by
  have hrec : Spec Try.prog 35 [.pointer q] [7010] [DeadL q] fun F w Rs' => ∃ b3 b4, w = .func (.func 80) #[] #[.pointer (some ⟨b3, 0, none⟩), .pointer (some ⟨b4, 0, none⟩)] ∧ Rs' = (b3, RECS b3 b4 [] 0) :: (7010, DeadL q) :: F := by
    refine spec_of Try.func35 rfl Try.ntmps35 rfl ?_
    intro w0 F
    repeat' (first | with_reducible (first | refine go1 ?_ | refine sct ?_ | refine scf ?_ | refine sgr ?_) | fail)
    refine sw_alloc fun b3 => ?_
    repeat' (first | with_reducible (first | refine go1 ?_ | refine sct ?_ | refine scf ?_ | refine sgr ?_) | fail)
    refine sw_alloc fun b4 => ?_
    repeat' (first | with_reducible (first | refine go1 ?_ | refine sct ?_ | refine scf ?_ | refine sgr ?_) | with_reducible refine sw_store ?_ | ((with_reducible refine sw_call (wNone_dead q) ?_); rintro _ _ ⟨rfl, rfl⟩) | fail)
    refine sq_ret1 Try.results35 ?_
    refine ⟨_, ⟨b3, b4, rfl, rfl⟩, ?_⟩
    refine Ent.trans ?_ (Ent.trans (Ent.cons _ (Ent.cons _ bag0)) (RECS.close (o := none) (rs := []) ⟨rfl, fun _ => ⟨rfl, rfl⟩, fun b c t h => by cases h⟩ rfl))
    repeat' (first | with_reducible exact Ent.refl _ | with_reducible refine Ent.take_eq ?_ ?_ | rfl | with_reducible refine Ent.oR ?_ | with_reducible refine Ent.trans (Ent.drop _ _) ?_)
  refine spec_of Try.func47 rfl Try.ntmps47 rfl ?_
  intro w0 F
  repeat' (first | with_reducible (first | refine go1 ?_ | refine sct ?_ | refine scf ?_ | refine sgr ?_) | fail)
  refine sw_alloc fun b => ?_
  repeat' (first | with_reducible (first | refine go1 ?_ | refine sct ?_ | refine scf ?_ | refine sgr ?_) | ((with_reducible refine sw_call hrec ?_); rintro _ _ ⟨b3, b4, rfl, rfl⟩) | fail)
  refine sc_rangeFuncS (wRecords1_iter b3 b4 [] 0 (by omega) (Nat.zero_le _) (fun r hr => by cases hr)) rfl (fun _ => (7010, DeadL q) :: (b, pts b (.cells [.bool false].toArray 4 (0, 0))) :: F) (fun _ _ => falseR) ?_ ?_ ?_ ?_
  · repeat' (first | with_reducible exact Ent.refl _ | with_reducible refine Ent.take_eq ?_ ?_ | rfl | with_reducible refine Ent.oR ?_ | with_reducible refine Ent.trans (Ent.drop _ _) ?_)
  · rintro w1 lp rc F' pre x ⟨hN, _⟩
    simp [numL] at hN
  rotate_left
  · intro r c pre x _
    exact sc_falseR (A := [(r, defers0 r), (b3, RECS b3 b4 [] 0)])
  intro r ys _
  simp only [List.zip_cons_cons, List.zip_nil_left, List.cons_append, List.nil_append]
  repeat' (first | with_reducible (first | refine go1 ?_ | refine sct ?_ | refine scf ?_ | refine sgr ?_) | with_reducible refine sw_store ?_ | with_reducible refine sq_block_m ?_ | with_reducible refine sq_then_m ?_ | fail)
  refine sq_ret_m rfl ?_
  refine sq_retc Try.results47 ?_
  refine ⟨_, ⟨rfl, rfl⟩, ?_⟩
  repeat' (first | with_reducible exact Ent.refl _ | with_reducible refine Ent.take_eq ?_ ?_ | rfl | with_reducible refine Ent.oR ?_ | with_reducible refine Ent.trans (Ent.drop _ _) ?_)
end
instance (m : Mk) : OneL m.cs := ⟨fun v hv => by
  simp only [Mk.cs, List.mem_cons, List.not_mem_nil, or_false] at hv
  rcases hv with rfl | rfl | rfl | rfl <;> rfl⟩
instance (m : Mk) : LenL m.cs 4 := ⟨rfl⟩
theorem wTruncate_dead4 (q : Option Addr) (a b c d : Int) : Spec Try.prog 42 [.pointer q, .agg [Value.int .i64 a, .int .i64 b, .int .i64 c, .int .i64 d].toArray] [7010] [DeadL q] fun F w Rs' => w = .int .i64 2 ∧ Rs' = (7010, DeadL q) :: F := wTruncate_dead q ⟨a, b, c, d⟩
theorem dead0 {F : List Res} : Ent F ((7010, DeadL none) :: F) := fun h hh => ⟨fun _ => none, h, fun _ => .inl rfl, by funext i; simp [hjoin], ⟨none, rfl, trivial⟩, hh⟩
theorem wOpen_nil (k : Nat) (r : HProp) (m : Mk) : Spec Try.prog 32 [.pointer none, .int .i64 0, .int .i64 2, .agg m.cs.toArray] [k] [r] fun F w Rs' => w = .tuple #[.pointer none, .int .i64 2] ∧ Rs' = (k, r) :: F := by
  have hsec := NoneD.sectors (NoneD.nil k r)
  refine spec_of Try.func32 rfl Try.ntmps32 rfl ?_
  intro w0 F
  unfold Mk.cs
  repeat' (first | with_reducible (first | refine go1 ?_ | refine sct ?_ | refine scf ?_ | refine sgr ?_) | fail)
  refine sw_box fun b => ?_
  repeat' (first | with_reducible (first | refine go1 ?_ | refine sct ?_ | refine scf ?_ | refine sgr ?_) | ((with_reducible refine sw_call hsec ?_); rintro _ _ ⟨rfl, rfl⟩) | (with_reducible refine sc_cond (fun h => ?_) (fun h => ?_)) <;> (try (exfalso; first | contradiction | omega | exact h Iff.rfl)) | fail)
  refine sq_ret2 Try.results32 ?_
  refine ⟨_, ⟨rfl, rfl⟩, ?_⟩
  repeat' (first | with_reducible exact Ent.refl _ | with_reducible refine Ent.take_eq ?_ ?_ | rfl | with_reducible refine Ent.oR ?_ | with_reducible refine Ent.trans (Ent.drop _ _) ?_)
set_option maxRecDepth 4000 in
theorem l17None_ok (W : World) (m : Mk) (v : Value) (bs : List Int) (hv : RdBx (ro W) v bs) :
    Spec Try.prog 10 [.agg m.cs.toArray, v] [0] [ro W] fun F w Rs' => w = .bool true ∧ ∃ G, Rs' = (0, ro W) :: G := by
  have hv1 := hv.one
  obtain ⟨a0, c0, rfl, _, _, _⟩ := id hv
  have hopen : Spec Try.prog 32 [.pointer none, .int .i64 0, .int .i64 2, .agg [Value.int .i64 m.sector, .int .i64 m.offset, .int .i64 m.number, .int .i64 m.run].toArray] [0] [ro W] fun F w Rs' => w = .tuple #[.pointer none, .int .i64 2] ∧ Rs' = (0, ro W) :: F := wOpen_nil 0 (ro W) m
  unfold Mk.cs
  refine spec_of Try.func10 rfl Try.ntmps10 rfl ?_
  intro w0 F
  repeat' (first | with_reducible (first | refine go1 ?_ | refine sct ?_ | refine scf ?_ | refine sgr ?_) | fail)
  refine sw_box fun b1 => ?_
  repeat' (first | with_reducible (first | refine go1 ?_ | refine sct ?_ | refine scf ?_ | refine sgr ?_) | ((with_reducible refine sw_call live_ok ?_); rintro _ _ ⟨rfl, rfl⟩) | (with_reducible refine sc_cond (fun h => ?_) (fun h => ?_)) <;> (try (exfalso; first | contradiction | omega | exact h Iff.rfl)) | fail)
  refine sw_build lzero (by kernel_rfl) ?_
  refine sw_box fun p => ?_
  refine sw_buildSlice [Value.pointer none, .pointer (some ⟨p, 0, none⟩)] (by omega) rfl fun b2 => ?_
  repeat' (first | with_reducible (first | refine go1 ?_ | refine sct ?_ | refine scf ?_ | refine sgr ?_) | fail)
  refine sc_loop (α := { i : Nat // i ≤ 2 }) (fun i => [(1, .slice a0 bs.length c0), (2, .pointer (some ⟨b1, 0, none⟩)), (17, .slice (some ⟨b2, 0, none⟩) 2 2), (18, .int .i64 2), (19, .int .i64 i.1)])
    (fun _ => (b1, pts b1 (.cells [Value.int .i64 m.sector, .int .i64 m.offset, .int .i64 m.number, .int .i64 m.run].toArray 23 (0, 0))) :: (p, pts p (.cells lzero.toArray 80 (0, 0))) :: (b2, pts b2 (.cells [Value.pointer none, .pointer (some ⟨p, 0, none⟩)].toArray 61 (0, 0))) :: (0, ro W) :: F) (fun i => 2 - i.1) ⟨0, Nat.zero_le _⟩ ?_ ?_ ?_
  · repeat' (first | exact says_nil | refine says_cons rfl ?_ | refine says_cons (by simp) ?_)
  · repeat' (first | with_reducible exact Ent.refl _ | with_reducible refine Ent.take_eq ?_ ?_ | rfl | with_reducible refine Ent.oR ?_ | with_reducible refine Ent.trans (Ent.drop _ _) ?_)
  rintro ⟨i, hi⟩ e
  (try simp only at hi)
  simp only [List.cons_append, List.nil_append]
  repeat' (first | with_reducible (first | refine go1 ?_ | refine sct ?_ | refine scf ?_ | refine sgr ?_) | (with_reducible refine sc_cond (fun h => ?_) (fun h => ?_)) <;> (try (exfalso; first | contradiction | omega | exact h Iff.rfl)) | fail)
  · refine sw_op (h := runop_idx i (by omega)) ?_
    have hi2 : i = 0 ∨ i = 1 := by omega
    rcases hi2 with rfl | rfl
    · refine sw_op (h := runop_loadAt (.pointer none) rfl) ?_
      refine sw_ent dead0 ?_
      repeat' (first | with_reducible refine sw_i64 (by omega) ?_ | with_reducible (first | refine go1 ?_ | refine sct ?_ | refine scf ?_ | refine sgr ?_) | ((with_reducible refine sw_call (wAppend_dead none 0 (ro W) _ hv1) ?_); rintro _ _ ⟨rfl, rfl⟩) | ((with_reducible refine sw_call (wPlace_dead none m.number) ?_); rintro _ _ ⟨rfl, rfl⟩) | with_reducible refine sw_alloc fun b9 => ?_ | with_reducible refine sw_store_agg ?_ | ((with_reducible refine sw_call (wFlush_dead none) ?_); rintro _ _ ⟨rfl, rfl⟩) | ((with_reducible refine sw_call (wTruncate_dead4 none _ _ _ _) ?_); rintro _ _ ⟨rfl, rfl⟩) | ((with_reducible refine sw_call (wMark_dead none) ?_); rintro _ _ ⟨rfl, rfl⟩) | ((with_reducible refine sw_call (wFirst_dead none) ?_); rintro _ _ ⟨rfl, rfl⟩) | ((with_reducible refine sw_call (wFlushed_dead none) ?_); rintro _ _ ⟨rfl, rfl⟩) | ((with_reducible refine sw_call (wRoom_dead none) ?_); rintro _ _ ⟨rfl, rfl⟩) | ((with_reducible refine sw_call (nothing_dead none) ?_); rintro _ _ ⟨rfl, rfl⟩) | with_reducible refine sw_build (Mk.cs ⟨0, 0, 0, 0⟩) (by kernel_rfl) ?_ | (with_reducible refine sc_cond (fun h => ?_) (fun h => ?_)) <;> (try (exfalso; first | contradiction | omega | exact h Iff.rfl)) | (with_reducible refine sw_guard_split (fun h => ?_) (fun h => ?_)) <;> (try (exfalso; first | contradiction | omega | exact h Iff.rfl)) | (with_reducible refine sw_pick (fun h => ?_) (fun h => ?_)) <;> (try (exfalso; first | contradiction | omega | exact h Iff.rfl)) | fail)
      refine sq_round ⟨1, by omega⟩ (by show 2 - 1 < 2 - 0; omega) ?_ ?_
      · repeat' (first | exact says_nil | refine says_cons rfl ?_ | refine says_cons (by simp) ?_)
      · repeat' (first | with_reducible exact Ent.refl _ | with_reducible refine Ent.take_eq ?_ ?_ | rfl | with_reducible refine Ent.oR ?_ | with_reducible refine Ent.trans (Ent.drop _ _) ?_)
    · refine sw_op (h := runop_loadAt (.pointer (some ⟨p, 0, none⟩)) rfl) ?_
      refine sw_ent (Ent.trans (Ent.take (k := p) (r' := pts p (.cells lzero.toArray 80 (0, 0))) (fun _ h => h) (Ent.refl _)) (Ent.rekey 7010 (r' := DeadL (some ⟨p, 0, none⟩)) fun h hh => ⟨some p, rfl, hh⟩)) ?_
      repeat' (first | with_reducible refine sw_i64 (by omega) ?_ | with_reducible (first | refine go1 ?_ | refine sct ?_ | refine scf ?_ | refine sgr ?_) | ((with_reducible refine sw_call (wAppend_dead (some ⟨p, 0, none⟩) 0 (ro W) _ hv1) ?_); rintro _ _ ⟨rfl, rfl⟩) | ((with_reducible refine sw_call (wPlace_dead (some ⟨p, 0, none⟩) m.number) ?_); rintro _ _ ⟨rfl, rfl⟩) | with_reducible refine sw_alloc fun b9 => ?_ | with_reducible refine sw_store_agg ?_ | ((with_reducible refine sw_call (wFlush_dead (some ⟨p, 0, none⟩)) ?_); rintro _ _ ⟨rfl, rfl⟩) | ((with_reducible refine sw_call (wTruncate_dead4 (some ⟨p, 0, none⟩) _ _ _ _) ?_); rintro _ _ ⟨rfl, rfl⟩) | ((with_reducible refine sw_call (wMark_dead (some ⟨p, 0, none⟩)) ?_); rintro _ _ ⟨rfl, rfl⟩) | ((with_reducible refine sw_call (wFirst_dead (some ⟨p, 0, none⟩)) ?_); rintro _ _ ⟨rfl, rfl⟩) | ((with_reducible refine sw_call (wFlushed_dead (some ⟨p, 0, none⟩)) ?_); rintro _ _ ⟨rfl, rfl⟩) | ((with_reducible refine sw_call (wRoom_dead (some ⟨p, 0, none⟩)) ?_); rintro _ _ ⟨rfl, rfl⟩) | ((with_reducible refine sw_call (nothing_dead (some ⟨p, 0, none⟩)) ?_); rintro _ _ ⟨rfl, rfl⟩) | with_reducible refine sw_build (Mk.cs ⟨0, 0, 0, 0⟩) (by kernel_rfl) ?_ | (with_reducible refine sc_cond (fun h => ?_) (fun h => ?_)) <;> (try (exfalso; first | contradiction | omega | exact h Iff.rfl)) | (with_reducible refine sw_guard_split (fun h => ?_) (fun h => ?_)) <;> (try (exfalso; first | contradiction | omega | exact h Iff.rfl)) | (with_reducible refine sw_pick (fun h => ?_) (fun h => ?_)) <;> (try (exfalso; first | contradiction | omega | exact h Iff.rfl)) | fail)
      refine sq_ent (Ent.trans (Ent.take (k := 7010) (r' := DeadL (some ⟨p, 0, none⟩)) (fun _ h => h) (Ent.refl _)) (Ent.rekey p (r' := pts p (.cells lzero.toArray 80 (0, 0))) fun h hh => ?_)) ?_
      · obtain ⟨o, ho, hh⟩ := hh
        cases o with
        | none => cases ho
        | some p' => cases ho; exact hh
      refine sq_round ⟨2, by omega⟩ (by show 2 - 2 < 2 - 1; omega) ?_ ?_
      · repeat' (first | exact says_nil | refine says_cons rfl ?_ | refine says_cons (by simp) ?_)
      · repeat' (first | with_reducible exact Ent.refl _ | with_reducible refine Ent.take_eq ?_ ?_ | rfl | with_reducible refine Ent.oR ?_ | with_reducible refine Ent.trans (Ent.drop _ _) ?_)
  · repeat' (first | with_reducible (first | refine go1 ?_ | refine sct ?_ | refine scf ?_ | refine sgr ?_) | ((with_reducible refine sw_call hopen ?_); rintro _ _ ⟨rfl, rfl⟩) | (with_reducible refine sc_cond (fun h => ?_) (fun h => ?_)) <;> (try (exfalso; first | contradiction | omega | exact h Iff.rfl)) | (with_reducible refine sw_guard_split (fun h => ?_) (fun h => ?_)) <;> (try (exfalso; first | contradiction | omega | exact h Iff.rfl)) | (with_reducible refine sw_pick (fun h => ?_) (fun h => ?_)) <;> (try (exfalso; first | contradiction | omega | exact h Iff.rfl)) | fail)
    refine sq_ret1 Try.results10 ?_
    refine ⟨_, ⟨by simp, F, rfl⟩, ?_⟩
    repeat' (first | with_reducible exact Ent.refl _ | with_reducible refine Ent.take_eq ?_ ?_ | rfl | with_reducible refine Ent.oR ?_ | with_reducible refine Ent.trans (Ent.drop _ _) ?_)
theorem none17_walk {W : World} {v : Value} {bs : List Int} {s o u q : Int} (hv : RdBx (ro W) v bs) : Calls Try.prog 10 #[.agg #[.int .i64 s, .int .i64 o, .int .i64 u, .int .i64 q], v] W fun e W' => e = .returned (.bool true) ∧ Below W.heap.size W W' := call_of_spec W (l17None_ok W ⟨s, o, u, q⟩ v bs hv)
end Go.Gsl
