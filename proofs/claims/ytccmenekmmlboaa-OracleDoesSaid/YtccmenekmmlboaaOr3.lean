/- The statement's own functions: begun, stamp; OracleRises. -/
import Derived.Test.YtccmenekmmlboaaOr2
import Derived.Test.YtccmenekmmlboaaGsl7
namespace Go.Gsl
set_option linter.unusedVariables false
open Go.Proofs

/-- Publish, whatever is asked. -/
theorem f20_any (p : Nat) (s : Or) (ts : Int) : Spec Try.prog 20 [.pointer (some ⟨p, 0, none⟩), .int .i64 ts] [p] [OR p s]
    fun F v Rs' => ∃ s' x, (((ts ≤ s.pub ∨ s.last < ts ∨ s.A ts = true) ∧ x = 1 ∧ s' = s) ∨ (s.pub < ts ∧ ts ≤ s.last ∧ s.A ts = false ∧ x = 0 ∧ s.Pub ts s')) ∧ v = .int .i64 x ∧ Rs' = (p, OR p s') :: F := by
  by_cases h1 : s.pub < ts
  · by_cases h2 : ts ≤ s.last
    · cases h3 : s.A ts with
      | false => exact (f20_ok p s ts h1 h2 h3).mono fun F v Rs' ⟨s', hp, hv, hr⟩ => ⟨s', 0, Or.inr ⟨h1, h2, rfl, rfl, hp⟩, hv, hr⟩
      | true => exact (f20_bad p s ts (Or.inr (Or.inr h3))).mono fun F v Rs' ⟨hv, hr⟩ => ⟨s, 1, Or.inl ⟨Or.inr (Or.inr rfl), rfl, rfl⟩, hv, hr⟩
    · exact (f20_bad p s ts (by omega)).mono fun F v Rs' ⟨hv, hr⟩ => ⟨s, 1, Or.inl ⟨by omega, rfl, rfl⟩, hv, hr⟩
  · exact (f20_bad p s ts (by omega)).mono fun F v Rs' ⟨hv, hr⟩ => ⟨s, 1, Or.inl ⟨by omega, rfl, rfl⟩, hv, hr⟩

def Or.B2 : Or := (Or.new 5).next.next
theorem begun1 {s : Or} (h : Or.B2.Pub 7 s) : s.pub = 5 ∧ s.last = 7 ∧ s.A 6 = false ∧ s.A 7 = true ∧ s.A 8 = false := by
  have h1 := h.le
  have h2 := h.run 6
  have h3 := h.wf.pl
  have h4 := h.last
  have hp : s.pub = 5 := by
    have e1 : Or.B2.pub = 5 := rfl
    rw [e1] at h1
    by_cases h5 : s.pub = 5
    · exact h5
    · rcases h2 (by rw [e1]; omega) (by omega) with h6 | h6
      · omega
      · cases h6
  refine ⟨hp, h4, ?_, ?_, ?_⟩ <;> rw [h.A, hp] <;> simp [Or.B2, Or.next, Or.new]

theorem begun2 {s s' : Or} (h : Or.B2.Pub 7 s) (h' : s.Pub 6 s') : s'.pub = 7 := by
  obtain ⟨a1, a2, a3, a4, a5⟩ := begun1 h
  have h1 := h'.le
  have h2 := h'.wf.pl
  have h3 := h'.last
  have h4 := h'.wf.a1
  rw [h'.A] at h4
  by_cases h5 : s'.pub = 5
  · rw [h5] at h4; simp at h4
  · by_cases h6 : s'.pub = 6
    · rw [h6] at h4; simp [a4] at h4
    · omega

theorem f16_6 (p : Nat) : Spec Try.prog 16 [.pointer (some ⟨p, 0, none⟩)] [p] [OR p (Or.new 5)] fun F v Rs' => v = .tuple #[.int .i64 6, .int .i64 0] ∧ Rs' = (p, OR p (Or.new 5).next) :: F := f16_ok p (Or.new 5) (by decide)
theorem f16_7 (p : Nat) : Spec Try.prog 16 [.pointer (some ⟨p, 0, none⟩)] [p] [OR p (Or.new 5).next] fun F v Rs' => v = .tuple #[.int .i64 7, .int .i64 0] ∧ Rs' = (p, OR p Or.B2) :: F := f16_ok p (Or.new 5).next (by decide)

theorem f15_ok : Spec Try.prog 15 [] [] [] fun F v Rs' => v = .bool true ∧ Rs' = F := by
  refine spec_of Try.func15 rfl Try.ntmps15 rfl ?_
  intro w0 F
  repeat' (first | with_reducible refine sw_op ?_ | with_reducible refine sw_op_ ?_ | ((with_reducible refine sw_call (f14_ok 5 (by omega) (by omega)) ?_); rintro _ _ ⟨p, rfl, rfl⟩) | with_reducible refine sw_nil ?_ | with_reducible refine sq_then ?_ | with_reducible refine sc_seq ?_ | with_reducible refine sc_region ?_ | with_reducible refine sw_guard_skip ?_ | with_reducible refine sw_guard_skip_ ?_ | with_reducible refine sw_guard_run ?_ | with_reducible refine sc_cond_true ?_ | with_reducible refine sc_cond_false ?_ | with_reducible refine sc_ret ?_ | with_reducible refine sq_then_ret ?_ | with_reducible refine sc_skip ?_ | with_reducible refine sc_block ?_ | with_reducible refine sq_block ?_ | with_reducible refine sq_block_ret ?_ | with_reducible refine sc_exit ?_ | with_reducible refine sq_then_exit ?_ | with_reducible refine sq_block_exit ?_ | with_reducible refine sq_block_past ?_ | with_reducible refine sq_round_ret ?_ | with_reducible refine sq_round_exit ?_ | fail)
  repeat' (first | with_reducible refine sw_op ?_ | with_reducible refine sw_op_ ?_ | ((with_reducible refine sw_call (f16_6 p) ?_); rintro _ _ ⟨rfl, rfl⟩) | ((with_reducible refine sw_call (f16_7 p) ?_); rintro _ _ ⟨rfl, rfl⟩) | with_reducible refine sw_nil ?_ | with_reducible refine sq_then ?_ | with_reducible refine sc_seq ?_ | with_reducible refine sc_region ?_ | with_reducible refine sw_guard_skip ?_ | with_reducible refine sw_guard_skip_ ?_ | with_reducible refine sw_guard_run ?_ | with_reducible refine sc_cond_true ?_ | with_reducible refine sc_cond_false ?_ | with_reducible refine sc_ret ?_ | with_reducible refine sq_then_ret ?_ | with_reducible refine sc_skip ?_ | with_reducible refine sc_block ?_ | with_reducible refine sq_block ?_ | with_reducible refine sq_block_ret ?_ | with_reducible refine sc_exit ?_ | with_reducible refine sq_then_exit ?_ | with_reducible refine sq_block_exit ?_ | with_reducible refine sq_block_past ?_ | with_reducible refine sq_round_ret ?_ | with_reducible refine sq_round_exit ?_ | (with_reducible refine sc_cond (fun h => ?_) (fun h => ?_)) <;> (try (exfalso; first | contradiction | omega | exact h Iff.rfl)) | (with_reducible refine sw_guard_split (fun h => ?_) (fun h => ?_)) <;> (try (exfalso; first | contradiction | omega | exact h Iff.rfl)) | (with_reducible refine sw_pick (fun h => ?_) (fun h => ?_)) <;> (try (exfalso; first | contradiction | omega | exact h Iff.rfl)) | fail)
  refine sw_call (f20_ok p Or.B2 7 (by decide) (by decide) rfl) ?_
  rintro _ _ ⟨s, hs, rfl, rfl⟩
  obtain ⟨a1, a2, a3, a4, a5⟩ := begun1 hs
  repeat' (first | with_reducible refine sw_op ?_ | with_reducible refine sw_op_ ?_ | ((with_reducible refine sw_call (f18_ok p s) ?_); rintro _ _ ⟨rfl, rfl⟩) | with_reducible refine sw_nil ?_ | with_reducible refine sq_then ?_ | with_reducible refine sc_seq ?_ | with_reducible refine sc_region ?_ | with_reducible refine sw_guard_skip ?_ | with_reducible refine sw_guard_skip_ ?_ | with_reducible refine sw_guard_run ?_ | with_reducible refine sc_cond_true ?_ | with_reducible refine sc_cond_false ?_ | with_reducible refine sc_ret ?_ | with_reducible refine sq_then_ret ?_ | with_reducible refine sc_skip ?_ | with_reducible refine sc_block ?_ | with_reducible refine sq_block ?_ | with_reducible refine sq_block_ret ?_ | with_reducible refine sc_exit ?_ | with_reducible refine sq_then_exit ?_ | with_reducible refine sq_block_exit ?_ | with_reducible refine sq_block_past ?_ | with_reducible refine sq_round_ret ?_ | with_reducible refine sq_round_exit ?_ | (with_reducible refine sc_cond (fun h => ?_) (fun h => ?_)) <;> (try (exfalso; first | contradiction | omega | exact h Iff.rfl)) | (with_reducible refine sw_guard_split (fun h => ?_) (fun h => ?_)) <;> (try (exfalso; first | contradiction | omega | exact h Iff.rfl)) | (with_reducible refine sw_pick (fun h => ?_) (fun h => ?_)) <;> (try (exfalso; first | contradiction | omega | exact h Iff.rfl)) | fail)
  refine sw_call (f20_ok p s 6 (by omega) (by omega) a3) ?_
  rintro _ _ ⟨s', hs', rfl, rfl⟩
  have a6 := begun2 hs hs'
  repeat' (first | with_reducible refine sw_op ?_ | with_reducible refine sw_op_ ?_ | ((with_reducible refine sw_call (f18_ok p s') ?_); rintro _ _ ⟨rfl, rfl⟩) | with_reducible refine sw_nil ?_ | with_reducible refine sq_then ?_ | with_reducible refine sc_seq ?_ | with_reducible refine sc_region ?_ | with_reducible refine sw_guard_skip ?_ | with_reducible refine sw_guard_skip_ ?_ | with_reducible refine sw_guard_run ?_ | with_reducible refine sc_cond_true ?_ | with_reducible refine sc_cond_false ?_ | with_reducible refine sc_ret ?_ | with_reducible refine sq_then_ret ?_ | with_reducible refine sc_skip ?_ | with_reducible refine sc_block ?_ | with_reducible refine sq_block ?_ | with_reducible refine sq_block_ret ?_ | with_reducible refine sc_exit ?_ | with_reducible refine sq_then_exit ?_ | with_reducible refine sq_block_exit ?_ | with_reducible refine sq_block_past ?_ | with_reducible refine sq_round_ret ?_ | with_reducible refine sq_round_exit ?_ | (with_reducible refine sc_cond (fun h => ?_) (fun h => ?_)) <;> (try (exfalso; first | contradiction | omega | exact h Iff.rfl)) | (with_reducible refine sw_guard_split (fun h => ?_) (fun h => ?_)) <;> (try (exfalso; first | contradiction | omega | exact h Iff.rfl)) | (with_reducible refine sw_pick (fun h => ?_) (fun h => ?_)) <;> (try (exfalso; first | contradiction | omega | exact h Iff.rfl)) | fail)
  exact sq_ret1 Try.results15 ⟨F, ⟨by simp [a6], rfl⟩, Ent.drop _ _⟩

/-- a script's operation -/
abbrev opv (d s t : Int) (o : Bool) : List Value := [.int .i64 d, .int .i64 s, .int .i64 t, .bool o]

def stampF (t : Int) (o : Bool) (last : Int) : Int := if o = true ∨ t < 0 ∨ 1099511627776 < t then t else last - t

theorem f22_ok (d s t : Int) (o : Bool) (last : Int) (h0 : 0 ≤ last) (h1 : last ≤ 1099511627776) : Spec Try.prog 22 [.agg (opv d s t o).toArray, .int .i64 last] [] [] fun F v Rs' => v = .int .i64 (stampF t o last) ∧ Rs' = F := by
  refine spec_of Try.func22 rfl Try.ntmps22 rfl ?_
  intro w0 F
  repeat' (first | with_reducible refine sw_op ?_ | with_reducible refine sw_op_ ?_ | with_reducible refine sw_nil ?_ | with_reducible refine sq_then ?_ | with_reducible refine sc_seq ?_ | with_reducible refine sc_region ?_ | with_reducible refine sw_guard_skip ?_ | with_reducible refine sw_guard_skip_ ?_ | with_reducible refine sw_guard_run ?_ | with_reducible refine sc_cond_true ?_ | with_reducible refine sc_cond_false ?_ | with_reducible refine sc_ret ?_ | with_reducible refine sq_then_ret ?_ | with_reducible refine sc_skip ?_ | with_reducible refine sc_block ?_ | with_reducible refine sq_block ?_ | with_reducible refine sq_block_ret ?_ | with_reducible refine sc_exit ?_ | with_reducible refine sq_then_exit ?_ | with_reducible refine sq_block_exit ?_ | with_reducible refine sq_block_past ?_ | with_reducible refine sq_round_ret ?_ | with_reducible refine sq_round_exit ?_ | fail)
  refine sw_box fun b => ?_
  repeat' (first | with_reducible refine sw_i64 (by omega) ?_ | with_reducible refine sw_op ?_ | with_reducible refine sw_op_ ?_ | with_reducible refine sw_nil ?_ | with_reducible refine sq_then ?_ | with_reducible refine sc_seq ?_ | with_reducible refine sc_region ?_ | with_reducible refine sw_guard_skip ?_ | with_reducible refine sw_guard_skip_ ?_ | with_reducible refine sw_guard_run ?_ | with_reducible refine sc_cond_true ?_ | with_reducible refine sc_cond_false ?_ | with_reducible refine sc_ret ?_ | with_reducible refine sq_then_ret ?_ | with_reducible refine sc_skip ?_ | with_reducible refine sc_block ?_ | with_reducible refine sq_block ?_ | with_reducible refine sq_block_ret ?_ | with_reducible refine sc_exit ?_ | with_reducible refine sq_then_exit ?_ | with_reducible refine sq_block_exit ?_ | with_reducible refine sq_block_past ?_ | with_reducible refine sq_round_ret ?_ | with_reducible refine sq_round_exit ?_ | (with_reducible refine sc_cond (fun h => ?_) (fun h => ?_)) <;> (try (exfalso; first | contradiction | omega | exact h Iff.rfl)) | (with_reducible refine sw_guard_split (fun h => ?_) (fun h => ?_)) <;> (try (exfalso; first | contradiction | omega | exact h Iff.rfl)) | (with_reducible refine sw_pick (fun h => ?_) (fun h => ?_)) <;> (try (exfalso; first | contradiction | omega | exact h Iff.rfl)) | fail)
  all_goals
    refine sq_ret1 Try.results22 ⟨F, ⟨?_, rfl⟩, Ent.drop _ _⟩
    unfold stampF
    split
    · first | rfl | (exfalso; rename_i hh; rcases hh with hh | hh | hh <;> first | contradiction | omega)
    · first | rfl | (exfalso; rename_i hh; exact hh (by first | exact Or.inl (by assumption) | exact Or.inr (Or.inl (by assumption)) | exact Or.inr (Or.inr (by assumption))))

/-- What a script reads as. -/
structure Op4 where
  d : Int
  s : Int
  t : Int
  o : Bool
instance : Inhabited Op4 := ⟨⟨0, 0, 0, false⟩⟩
def OpsAt (W : World) (a : Option Addr) (os : List Op4) : Prop :=
  ∀ k (h : k < os.length), ∃ b off, a = some ⟨b, off, none⟩ ∧ ∀ j v, (opv os[k].d os[k].s os[k].t os[k].o)[j]? = some v → W.cell? ⟨b, off + k * 4 + j, none⟩ = some v

theorem Or.Least.unique {s : Or} {v w : Int} (h : s.Least v) (k : s.Least w) : v = w := by
  have := h.le
  have := k.le
  rcases h.is with h1 | ⟨x, h1⟩ <;> rcases k.is with k1 | ⟨y, k1⟩
  · omega
  · have := h.all y _ k1; omega
  · have := k.all x _ h1; omega
  · have := h.all y _ k1; have := k.all x _ h1; omega

/-- One state is behind another. -/
structure Or.Up (s s' : Or) : Prop where
  pub : s.pub ≤ s'.pub
  O : ∀ x t, s'.O x = some t → s.O x = some t ∨ s.pub ≤ t
theorem Or.Up.refl (s : Or) : s.Up s := ⟨Int.le_refl _, fun _ _ h => Or.inl h⟩
theorem Or.Up.next (s : Or) : s.Up s.next := ⟨Int.le_refl _, fun _ _ h => Or.inl h⟩
theorem Or.Up.of_pub {s s' : Or} {ts : Int} (h : s.Pub ts s') : s.Up s' := ⟨h.le, fun x t ht => Or.inl (by rw [← h.O]; exact ht)⟩
theorem Or.Up.opened (s : Or) (x : Int) : s.Up (s.opened x) := ⟨Int.le_refl _, fun y t ht => by
  simp only [Or.opened] at ht
  split at ht
  · right; simp only [Option.some.injEq] at ht; omega
  · exact Or.inl ht⟩
theorem Or.Up.shut (s : Or) (x : Int) : s.Up (s.shut x) := ⟨Int.le_refl _, fun y t ht => by
  simp only [Or.shut] at ht
  split at ht
  · cases ht
  · exact Or.inl ht⟩
theorem Or.Up.mark {s s' : Or} {v w : Int} (h : s.Up s') (hv : s.Least v) (hw : s'.Least w) : v ≤ w := by
  have := hv.le
  have := h.pub
  rcases hw.is with h1 | ⟨x, h1⟩
  · omega
  · rcases h.O x w h1 with h2 | h2
    · exact hv.all x w h2
    · omega

/-- Next, whatever. -/
theorem f16_any (p : Nat) (s : Or) : Spec Try.prog 16 [.pointer (some ⟨p, 0, none⟩)] [p] [OR p s] fun F v Rs' => ∃ s' x y, s.Up s' ∧ v = .tuple #[.int .i64 x, .int .i64 y] ∧ Rs' = (p, OR p s') :: F := by
  by_cases h : s.last < 1099511627776
  · exact (f16_ok p s h).mono fun F v Rs' ⟨hv, hr⟩ => ⟨s.next, _, _, Or.Up.next s, hv, hr⟩
  · exact (f16_full p s (by omega)).mono fun F v Rs' ⟨hv, hr⟩ => ⟨s, _, _, Or.Up.refl s, hv, hr⟩
theorem f23_any (p : Nat) (s : Or) (x : Int) : Spec Try.prog 23 [.pointer (some ⟨p, 0, none⟩), .int .i64 x] [p] [OR p s] fun F v Rs' => ∃ s' y z, (s.Up s' ∧ s'.pub = s.pub ∧ (z = 0 → y = s'.pub)) ∧ v = .tuple #[.int .i64 y, .int .i64 z] ∧ Rs' = (p, OR p s') :: F := by
  by_cases h : 0 ≤ x ∧ x ≤ 16
  · cases ho : s.O x with
    | none => exact (f23_ok p s x h.1 h.2 ho).mono fun F v Rs' ⟨hv, hr⟩ => ⟨s.opened x, _, _, ⟨Or.Up.opened s x, rfl, fun _ => rfl⟩, hv, hr⟩
    | some t => exact (f23_open p s x t h.1 h.2 ho).mono fun F v Rs' ⟨hv, hr⟩ => ⟨s, _, _, ⟨Or.Up.refl s, rfl, fun h => by omega⟩, hv, hr⟩
  · exact (f23_bad p s x (by omega)).mono fun F v Rs' ⟨hv, hr⟩ => ⟨s, _, _, ⟨Or.Up.refl s, rfl, fun h => by omega⟩, hv, hr⟩
theorem f24_any (p : Nat) (s : Or) (x : Int) : Spec Try.prog 24 [.pointer (some ⟨p, 0, none⟩), .int .i64 x] [p] [OR p s] fun F v Rs' => ∃ s' z, s.Up s' ∧ v = .int .i64 z ∧ Rs' = (p, OR p s') :: F := by
  by_cases h : 0 ≤ x ∧ x ≤ 16
  · cases ho : s.O x with
    | none => exact (f24_shut p s x h.1 h.2 ho).mono fun F v Rs' ⟨hv, hr⟩ => ⟨s, _, Or.Up.refl s, hv, hr⟩
    | some t => exact (f24_ok p s x t h.1 h.2 ho).mono fun F v Rs' ⟨hv, hr⟩ => ⟨s.shut x, _, Or.Up.shut s x, hv, hr⟩
  · exact (f24_bad p s x (by omega)).mono fun F v Rs' ⟨hv, hr⟩ => ⟨s, _, Or.Up.refl s, hv, hr⟩

theorem OR.wf {p : Nat} {s : Or} {w0 : World} {Rs F : List Res} {P : Program} {ops : List Oper} {Q : Cont} {n : Nat} {l : List Oper} {e : Env} [t : Take Rs p (OR p s) F] (h : s.Wf → SW P ops Q n w0 l e Rs) : SW P ops Q n w0 l e Rs := by
  intro w hw
  exact h (OR.openS (hw.ent t.ent)).1 w hw

theorem f19_wf (p : Nat) (s : Or) : Spec Try.prog 19 [.pointer (some ⟨p, 0, none⟩)] [p] [OR p s] fun F v Rs' => s.pub ≤ s.last ∧ v = .int .i64 s.last ∧ Rs' = (p, OR p s) :: F := by
  intro w0 F w hw
  have h1 : s.Wf := (OR.openS (k := p) (F := F) (w := w) (w0 := w0) (by simpa using hw)).1
  refine (f19_ok p s w0 F w hw).mono ?_
  rintro x w' ⟨v, Rs', hx, hp, hs⟩
  exact ⟨v, Rs', hx, ⟨h1.pl, hp⟩, hs⟩

theorem OR.scwf {p : Nat} {s : Or} {w0 : World} {Rs F : List Res} {P : Program} {Q : Cont} {n : Nat} {c : Code} {e : Env} [t : Take Rs p (OR p s) F] (h : s.Wf → SC P Q n w0 c e Rs) : SC P Q n w0 c e Rs := by
  intro w hw
  exact h (OR.openS (hw.ent t.ent)).1 w hw

theorem f4_ok (W : World) (last : Int) (a : Option Addr) (os : List Op4) (c : Nat) (hos : OpsAt W a os) (hlen : os.length ≤ 9223372036854775807) : Spec Try.prog 4 [.int .i64 last, .slice a os.length c] [0] [ro W] fun F v Rs' => v = .bool true ∧ ∃ G, Rs' = (0, ro W) :: G := by
  by_cases hl : last < 0 ∨ 1099511627776 < last
  · refine spec_of Try.func4 rfl Try.ntmps4 rfl ?_
    intro w0 F
    repeat' (first | with_reducible refine sw_op ?_ | with_reducible refine sw_op_ ?_ | ((with_reducible refine sw_call (f14_bad last hl) ?_); rintro _ _ ⟨rfl, rfl⟩) | ((with_reducible refine sw_call f15_ok ?_); rintro _ _ ⟨rfl, rfl⟩) | with_reducible refine sw_nil ?_ | with_reducible refine sq_then ?_ | with_reducible refine sc_seq ?_ | with_reducible refine sc_region ?_ | with_reducible refine sw_guard_skip ?_ | with_reducible refine sw_guard_skip_ ?_ | with_reducible refine sw_guard_run ?_ | with_reducible refine sc_cond_true ?_ | with_reducible refine sc_cond_false ?_ | with_reducible refine sc_ret ?_ | with_reducible refine sq_then_ret ?_ | with_reducible refine sc_skip ?_ | with_reducible refine sc_block ?_ | with_reducible refine sq_block ?_ | with_reducible refine sq_block_ret ?_ | with_reducible refine sc_exit ?_ | with_reducible refine sq_then_exit ?_ | with_reducible refine sq_block_exit ?_ | with_reducible refine sq_block_past ?_ | with_reducible refine sq_round_ret ?_ | with_reducible refine sq_round_exit ?_ | (with_reducible refine sc_cond (fun h => ?_) (fun h => ?_)) <;> (try (exfalso; first | contradiction | omega | exact h Iff.rfl)) | (with_reducible refine sw_guard_split (fun h => ?_) (fun h => ?_)) <;> (try (exfalso; first | contradiction | omega | exact h Iff.rfl)) | (with_reducible refine sw_pick (fun h => ?_) (fun h => ?_)) <;> (try (exfalso; first | contradiction | omega | exact h Iff.rfl)) | fail)
    all_goals
      refine sq_ret1 Try.results4 ⟨_, ⟨?_, F, rfl⟩, Ent.refl _⟩
      first | rfl | (congr 1; simp; omega)
  · refine spec_of Try.func4 rfl Try.ntmps4 rfl ?_
    intro w0 F
    repeat' (first | with_reducible refine sw_op ?_ | with_reducible refine sw_op_ ?_ | ((with_reducible refine sw_call (f14_ok last (by omega) (by omega)) ?_); rintro _ _ ⟨p, rfl, rfl⟩) | ((with_reducible refine sw_call f15_ok ?_); rintro _ _ ⟨rfl, rfl⟩) | with_reducible refine sw_nil ?_ | with_reducible refine sq_then ?_ | with_reducible refine sc_seq ?_ | with_reducible refine sc_region ?_ | with_reducible refine sw_guard_skip ?_ | with_reducible refine sw_guard_skip_ ?_ | with_reducible refine sw_guard_run ?_ | with_reducible refine sc_cond_true ?_ | with_reducible refine sc_cond_false ?_ | with_reducible refine sc_ret ?_ | with_reducible refine sq_then_ret ?_ | with_reducible refine sc_skip ?_ | with_reducible refine sc_block ?_ | with_reducible refine sq_block ?_ | with_reducible refine sq_block_ret ?_ | with_reducible refine sc_exit ?_ | with_reducible refine sq_then_exit ?_ | with_reducible refine sq_block_exit ?_ | with_reducible refine sq_block_past ?_ | with_reducible refine sq_round_ret ?_ | with_reducible refine sq_round_exit ?_ | (with_reducible refine sc_cond (fun h => ?_) (fun h => ?_)) <;> (try (exfalso; first | contradiction | omega | exact h Iff.rfl)) | (with_reducible refine sw_guard_split (fun h => ?_) (fun h => ?_)) <;> (try (exfalso; first | contradiction | omega | exact h Iff.rfl)) | (with_reducible refine sw_pick (fun h => ?_) (fun h => ?_)) <;> (try (exfalso; first | contradiction | omega | exact h Iff.rfl)) | fail)
    generalize Or.new last = s0
    repeat' (first | with_reducible refine sw_op ?_ | with_reducible refine sw_op_ ?_ | ((with_reducible refine sw_call (f18_ok p s0) ?_); rintro _ _ ⟨rfl, rfl⟩) | ((with_reducible refine sw_call (f21_ok p s0) ?_); rintro _ _ ⟨m0, hm0, rfl, rfl⟩) | with_reducible refine sw_nil ?_ | with_reducible refine sq_then ?_ | with_reducible refine sc_seq ?_ | with_reducible refine sc_region ?_ | with_reducible refine sw_guard_skip ?_ | with_reducible refine sw_guard_skip_ ?_ | with_reducible refine sw_guard_run ?_ | with_reducible refine sc_cond_true ?_ | with_reducible refine sc_cond_false ?_ | with_reducible refine sc_ret ?_ | with_reducible refine sq_then_ret ?_ | with_reducible refine sc_skip ?_ | with_reducible refine sc_block ?_ | with_reducible refine sq_block ?_ | with_reducible refine sq_block_ret ?_ | with_reducible refine sc_exit ?_ | with_reducible refine sq_then_exit ?_ | with_reducible refine sq_block_exit ?_ | with_reducible refine sq_block_past ?_ | with_reducible refine sq_round_ret ?_ | with_reducible refine sq_round_exit ?_ | fail)
    refine sc_loop (α := { x : Nat × Or × Int // x.1 ≤ os.length ∧ x.2.1.Least x.2.2 }) (fun x => [(5, .pointer (some ⟨p, 0, none⟩)), (7, .int .i64 x.1.2.1.pub), (8, .int .i64 x.1.2.2), (39, .slice a os.length c), (40, .int .i64 os.length), (41, .int .i64 x.1.1)])
      (fun x => (p, OR p x.1.2.1) :: (0, ro W) :: F) (fun x => os.length - x.1.1) ⟨(0, s0, m0), Nat.zero_le _, hm0⟩ ?_ ?_ ?_
    · exact says_cons rfl (says_cons rfl (says_cons rfl (says_cons rfl (says_cons rfl (says_cons rfl says_nil)))))
    · repeat' (first | with_reducible exact Ent.refl _ | with_reducible refine Ent.take_eq ?_ ?_ | rfl | with_reducible refine Ent.trans (Ent.drop _ _) ?_)
    · rintro ⟨⟨k, s, m⟩, hk, hm⟩ e
      simp only at hk hm
      simp only [List.cons_append, List.nil_append]
      repeat' (first | with_reducible refine sw_op ?_ | with_reducible refine sw_op_ ?_ | with_reducible refine sw_nil ?_ | with_reducible refine sq_then ?_ | with_reducible refine sc_seq ?_ | with_reducible refine sc_region ?_ | with_reducible refine sw_guard_skip ?_ | with_reducible refine sw_guard_skip_ ?_ | with_reducible refine sw_guard_run ?_ | with_reducible refine sc_cond_true ?_ | with_reducible refine sc_cond_false ?_ | with_reducible refine sc_ret ?_ | with_reducible refine sq_then_ret ?_ | with_reducible refine sc_skip ?_ | with_reducible refine sc_block ?_ | with_reducible refine sq_block ?_ | with_reducible refine sq_block_ret ?_ | with_reducible refine sc_exit ?_ | with_reducible refine sq_then_exit ?_ | with_reducible refine sq_block_exit ?_ | with_reducible refine sq_block_past ?_ | with_reducible refine sq_round_ret ?_ | with_reducible refine sq_round_exit ?_ | (with_reducible refine sc_cond (fun h => ?_) (fun h => ?_)) <;> (try (exfalso; first | contradiction | omega | exact h Iff.rfl)) | (with_reducible refine sw_guard_split (fun h => ?_) (fun h => ?_)) <;> (try (exfalso; first | contradiction | omega | exact h Iff.rfl)) | (with_reducible refine sw_pick (fun h => ?_) (fun h => ?_)) <;> (try (exfalso; first | contradiction | omega | exact h Iff.rfl)) | fail)
      · -- a round
        rename_i hlt
        have hk2 : k < os.length := by omega
        obtain ⟨b, off, rfl, hcell⟩ := hos k hk2
        refine sw_index (by omega) ?_
        refine sw_load_agg (sz := 4) (vs := opv os[k].d os[k].s os[k].t os[k].o) rfl (fun w hw j v hj => ro_cell (W := W) (by simpa using hcell j v hj) w hw) ?_
        refine sw_alloc fun ob => ?_
        refine sw_store_agg ?_
        repeat' (first | with_reducible refine sw_op ?_ | with_reducible refine sw_op_ ?_ | with_reducible refine sw_nil ?_ | with_reducible refine sq_then ?_ | with_reducible refine sc_seq ?_ | with_reducible refine sc_region ?_ | with_reducible refine sw_guard_skip ?_ | with_reducible refine sw_guard_skip_ ?_ | with_reducible refine sw_guard_run ?_ | with_reducible refine sc_cond_true ?_ | with_reducible refine sc_cond_false ?_ | with_reducible refine sc_ret ?_ | with_reducible refine sq_then_ret ?_ | with_reducible refine sc_skip ?_ | with_reducible refine sc_block ?_ | with_reducible refine sq_block ?_ | with_reducible refine sq_block_ret ?_ | with_reducible refine sc_exit ?_ | with_reducible refine sq_then_exit ?_ | with_reducible refine sq_block_exit ?_ | with_reducible refine sq_block_past ?_ | with_reducible refine sq_round_ret ?_ | with_reducible refine sq_round_exit ?_ | (with_reducible refine sc_cond (fun h => ?_) (fun h => ?_)) <;> (try (exfalso; first | contradiction | omega | exact h Iff.rfl)) | (with_reducible refine sw_guard_split (fun h => ?_) (fun h => ?_)) <;> (try (exfalso; first | contradiction | omega | exact h Iff.rfl)) | (with_reducible refine sw_pick (fun h => ?_) (fun h => ?_)) <;> (try (exfalso; first | contradiction | omega | exact h Iff.rfl)) | fail)
        focus
          refine sw_call (f16_any p s) ?_
          rintro _ _ ⟨s', x, y, hup, rfl, rfl⟩
        rotate_left
        focus
          refine OR.scwf (p := p) (s := s) fun hwf => ?_
          have hl1 := hwf.p0
          have hl2 := hwf.pl
          have hl3 := hwf.lm
          refine sc_drawG (m := 6) ([(ob, pts ob (.cells (opv os[k].d os[k].s os[k].t os[k].o).toArray 37 (0, 0)))]) (by kernel_rfl) rfl ?_
          all_goals (first | refine sg_take 0 (by repeat' (first | with_reducible exact calm_post | with_reducible refine Calm.then ?_ | with_reducible refine Calm.block ?_ | with_reducible refine Calm.round ?_ | with_reducible refine Calm.mark ?_)) rfl (by kernel_rfl) (by kernel_rfl) (by kernel_rfl) ?_)
          all_goals (first | refine sg_take 1 (by repeat' (first | with_reducible exact calm_post | with_reducible refine Calm.then ?_ | with_reducible refine Calm.block ?_ | with_reducible refine Calm.round ?_ | with_reducible refine Calm.mark ?_)) rfl (by kernel_rfl) (by kernel_rfl) (by kernel_rfl) ?_)
          all_goals (first | refine sg_take 2 (by repeat' (first | with_reducible exact calm_post | with_reducible refine Calm.then ?_ | with_reducible refine Calm.block ?_ | with_reducible refine Calm.round ?_ | with_reducible refine Calm.mark ?_)) rfl (by kernel_rfl) (by kernel_rfl) (by kernel_rfl) ?_)
          all_goals (refine sg_one 3 rfl (by kernel_rfl) rfl ?_)
          all_goals (repeat' (first | with_reducible refine sw_op ?_ | with_reducible refine sw_op_ ?_ | ((with_reducible refine sw_call (f19_ok p s) ?_); rintro _ _ ⟨rfl, rfl⟩) | ((with_reducible refine sw_call (f22_ok _ _ _ _ s.last (by omega) (by omega)) ?_); rintro _ _ ⟨rfl, rfl⟩) | ((with_reducible refine sw_call (f20_any p s _) ?_); rintro _ _ ⟨s', x, hcase, rfl, rfl⟩) | with_reducible refine sg_back ?_ | with_reducible refine sw_nil ?_ | with_reducible refine sq_then ?_ | with_reducible refine sc_seq ?_ | with_reducible refine sc_region ?_ | with_reducible refine sw_guard_skip ?_ | with_reducible refine sw_guard_skip_ ?_ | with_reducible refine sw_guard_run ?_ | with_reducible refine sc_cond_true ?_ | with_reducible refine sc_cond_false ?_ | with_reducible refine sc_ret ?_ | with_reducible refine sq_then_ret ?_ | with_reducible refine sc_skip ?_ | with_reducible refine sc_block ?_ | with_reducible refine sq_block ?_ | with_reducible refine sq_block_ret ?_ | with_reducible refine sc_exit ?_ | with_reducible refine sq_then_exit ?_ | with_reducible refine sq_block_exit ?_ | with_reducible refine sq_block_past ?_ | with_reducible refine sq_round_ret ?_ | with_reducible refine sq_round_exit ?_ | fail))
          all_goals (refine sg_one 4 rfl (by kernel_rfl) rfl ?_)
          all_goals (repeat' (first | with_reducible refine sw_op ?_ | with_reducible refine sw_op_ ?_ | ((with_reducible refine sw_call (f19_ok p s) ?_); rintro _ _ ⟨rfl, rfl⟩) | ((with_reducible refine sw_call (f22_ok _ _ _ _ s.last (by omega) (by omega)) ?_); rintro _ _ ⟨rfl, rfl⟩) | ((with_reducible refine sw_call (f20_any p s _) ?_); rintro _ _ ⟨s', x, hcase, rfl, rfl⟩) | with_reducible refine sg_back ?_ | with_reducible refine sw_nil ?_ | with_reducible refine sq_then ?_ | with_reducible refine sc_seq ?_ | with_reducible refine sc_region ?_ | with_reducible refine sw_guard_skip ?_ | with_reducible refine sw_guard_skip_ ?_ | with_reducible refine sw_guard_run ?_ | with_reducible refine sc_cond_true ?_ | with_reducible refine sc_cond_false ?_ | with_reducible refine sc_ret ?_ | with_reducible refine sq_then_ret ?_ | with_reducible refine sc_skip ?_ | with_reducible refine sc_block ?_ | with_reducible refine sq_block ?_ | with_reducible refine sq_block_ret ?_ | with_reducible refine sc_exit ?_ | with_reducible refine sq_then_exit ?_ | with_reducible refine sq_block_exit ?_ | with_reducible refine sq_block_past ?_ | with_reducible refine sq_round_ret ?_ | with_reducible refine sq_round_exit ?_ | fail))
          all_goals (refine sg_one 5 rfl (by kernel_rfl) rfl ?_)
          all_goals (repeat' (first | with_reducible refine sw_op ?_ | with_reducible refine sw_op_ ?_ | ((with_reducible refine sw_call (f19_ok p s) ?_); rintro _ _ ⟨rfl, rfl⟩) | ((with_reducible refine sw_call (f22_ok _ _ _ _ s.last (by omega) (by omega)) ?_); rintro _ _ ⟨rfl, rfl⟩) | ((with_reducible refine sw_call (f20_any p s _) ?_); rintro _ _ ⟨s', x, hcase, rfl, rfl⟩) | with_reducible refine sg_back ?_ | with_reducible refine sw_nil ?_ | with_reducible refine sq_then ?_ | with_reducible refine sc_seq ?_ | with_reducible refine sc_region ?_ | with_reducible refine sw_guard_skip ?_ | with_reducible refine sw_guard_skip_ ?_ | with_reducible refine sw_guard_run ?_ | with_reducible refine sc_cond_true ?_ | with_reducible refine sc_cond_false ?_ | with_reducible refine sc_ret ?_ | with_reducible refine sq_then_ret ?_ | with_reducible refine sc_skip ?_ | with_reducible refine sc_block ?_ | with_reducible refine sq_block ?_ | with_reducible refine sq_block_ret ?_ | with_reducible refine sc_exit ?_ | with_reducible refine sq_then_exit ?_ | with_reducible refine sq_block_exit ?_ | with_reducible refine sq_block_past ?_ | with_reducible refine sq_round_ret ?_ | with_reducible refine sq_round_exit ?_ | fail))
          all_goals (refine sg_done (by kernel_rfl) rfl ?_)
          have hup : s.Up s' := by
            rcases hcase with ⟨_, _, rfl⟩ | ⟨_, _, _, _, h⟩
            · exact Or.Up.refl _
            · exact Or.Up.of_pub h
          clear hcase
        rotate_left
        focus
          refine sw_call (f23_any p s _) ?_
          rintro _ _ ⟨s', y, z, ⟨hup, hy1, hy2⟩, rfl, rfl⟩
          repeat' (first | with_reducible refine sw_op ?_ | with_reducible refine sw_op_ ?_ | with_reducible refine sw_nil ?_ | with_reducible refine sq_then ?_ | with_reducible refine sc_seq ?_ | with_reducible refine sc_region ?_ | with_reducible refine sw_guard_skip ?_ | with_reducible refine sw_guard_skip_ ?_ | with_reducible refine sw_guard_run ?_ | with_reducible refine sc_cond_true ?_ | with_reducible refine sc_cond_false ?_ | with_reducible refine sc_ret ?_ | with_reducible refine sq_then_ret ?_ | with_reducible refine sc_skip ?_ | with_reducible refine sc_block ?_ | with_reducible refine sq_block ?_ | with_reducible refine sq_block_ret ?_ | with_reducible refine sc_exit ?_ | with_reducible refine sq_then_exit ?_ | with_reducible refine sq_block_exit ?_ | with_reducible refine sq_block_past ?_ | with_reducible refine sq_round_ret ?_ | with_reducible refine sq_round_exit ?_ | (with_reducible refine sc_cond (fun h => ?_) (fun h => ?_)) <;> (try (exfalso; first | contradiction | omega | exact h Iff.rfl)) | (with_reducible refine sw_guard_split (fun h => ?_) (fun h => ?_)) <;> (try (exfalso; first | contradiction | omega | exact h Iff.rfl)) | (with_reducible refine sw_pick (fun h => ?_) (fun h => ?_)) <;> (try (exfalso; first | contradiction | omega | exact h Iff.rfl)) | fail)
          refine sw_call (f18_ok p s') ?_
          rintro _ _ ⟨rfl, rfl⟩
          repeat' (first | with_reducible refine sw_op ?_ | with_reducible refine sw_op_ ?_ | with_reducible refine sw_nil ?_ | with_reducible refine sq_then ?_ | with_reducible refine sc_seq ?_ | with_reducible refine sc_region ?_ | with_reducible refine sw_guard_skip ?_ | with_reducible refine sw_guard_skip_ ?_ | with_reducible refine sw_guard_run ?_ | with_reducible refine sc_cond_true ?_ | with_reducible refine sc_cond_false ?_ | with_reducible refine sc_ret ?_ | with_reducible refine sq_then_ret ?_ | with_reducible refine sc_skip ?_ | with_reducible refine sc_block ?_ | with_reducible refine sq_block ?_ | with_reducible refine sq_block_ret ?_ | with_reducible refine sc_exit ?_ | with_reducible refine sq_then_exit ?_ | with_reducible refine sq_block_exit ?_ | with_reducible refine sq_block_past ?_ | with_reducible refine sq_round_ret ?_ | with_reducible refine sq_round_exit ?_ | (with_reducible refine sc_cond (fun h => ?_) (fun h => ?_)) <;> (try (exfalso; first | contradiction | omega | exact h Iff.rfl)) | (with_reducible refine sw_guard_split (fun h => ?_) (fun h => ?_)) <;> (try (exfalso; first | contradiction | omega | exact h Iff.rfl)) | (with_reducible refine sw_pick (fun h => ?_) (fun h => ?_)) <;> (try (exfalso; first | contradiction | omega | exact h Iff.rfl)) | fail)
          all_goals clear hy1 hy2
        rotate_left
        rotate_left
        focus
          refine sw_call (f24_any p s _) ?_
          rintro _ _ ⟨s', z, hup, rfl, rfl⟩
        rotate_left
        focus
          obtain ⟨s', rfl⟩ : ∃ s', s' = s := ⟨s, rfl⟩
          have hup : s'.Up s' := Or.Up.refl s'
        all_goals
          have hu := hup.pub
          repeat' (first | with_reducible refine sw_op ?_ | with_reducible refine sw_op_ ?_ | with_reducible refine sw_nil ?_ | with_reducible refine sq_then ?_ | with_reducible refine sc_seq ?_ | with_reducible refine sc_region ?_ | with_reducible refine sw_guard_skip ?_ | with_reducible refine sw_guard_skip_ ?_ | with_reducible refine sw_guard_run ?_ | with_reducible refine sc_cond_true ?_ | with_reducible refine sc_cond_false ?_ | with_reducible refine sc_ret ?_ | with_reducible refine sq_then_ret ?_ | with_reducible refine sc_skip ?_ | with_reducible refine sc_block ?_ | with_reducible refine sq_block ?_ | with_reducible refine sq_block_ret ?_ | with_reducible refine sc_exit ?_ | with_reducible refine sq_then_exit ?_ | with_reducible refine sq_block_exit ?_ | with_reducible refine sq_block_past ?_ | with_reducible refine sq_round_ret ?_ | with_reducible refine sq_round_exit ?_ | (with_reducible refine sc_cond (fun h => ?_) (fun h => ?_)) <;> (try (exfalso; first | contradiction | omega | exact h Iff.rfl)) | (with_reducible refine sw_guard_split (fun h => ?_) (fun h => ?_)) <;> (try (exfalso; first | contradiction | omega | exact h Iff.rfl)) | (with_reducible refine sw_pick (fun h => ?_) (fun h => ?_)) <;> (try (exfalso; first | contradiction | omega | exact h Iff.rfl)) | fail)
          refine sw_keep [82, 5, 7, 8, 39, 40, 41] fun e0 => ?_
          simp only [List.cons_append, List.nil_append]
          repeat' (first | with_reducible refine sw_i64 (by omega) ?_ | with_reducible refine sw_op ?_ | with_reducible refine sw_op_ ?_ | ((with_reducible refine sw_call (f18_ok p s') ?_); rintro _ _ ⟨rfl, rfl⟩) | ((with_reducible refine sw_call (f21_ok p s') ?_); rintro _ _ ⟨w1, hw1, rfl, rfl⟩; have hx1 := hup.mark hm hw1; have hx2 := hw1.le) | ((with_reducible refine sw_call (f19_wf p s') ?_); rintro _ _ ⟨hpl, rfl, rfl⟩) | with_reducible refine sw_nil ?_ | with_reducible refine sq_then ?_ | with_reducible refine sc_seq ?_ | with_reducible refine sc_region ?_ | with_reducible refine sw_guard_skip ?_ | with_reducible refine sw_guard_skip_ ?_ | with_reducible refine sw_guard_run ?_ | with_reducible refine sc_cond_true ?_ | with_reducible refine sc_cond_false ?_ | with_reducible refine sc_ret ?_ | with_reducible refine sq_then_ret ?_ | with_reducible refine sc_skip ?_ | with_reducible refine sc_block ?_ | with_reducible refine sq_block ?_ | with_reducible refine sq_block_ret ?_ | with_reducible refine sc_exit ?_ | with_reducible refine sq_then_exit ?_ | with_reducible refine sq_block_exit ?_ | with_reducible refine sq_block_past ?_ | with_reducible refine sq_round_ret ?_ | with_reducible refine sq_round_exit ?_ | (with_reducible refine sc_cond (fun h => ?_) (fun h => ?_)) <;> (try (exfalso; first | contradiction | omega | exact h Iff.rfl)) | (with_reducible refine sw_guard_split (fun h => ?_) (fun h => ?_)) <;> (try (exfalso; first | contradiction | omega | exact h Iff.rfl)) | (with_reducible refine sw_pick (fun h => ?_) (fun h => ?_)) <;> (try (exfalso; first | contradiction | omega | exact h Iff.rfl)) | fail)
        all_goals
          refine sq_round ⟨(k + 1, s', w1), hk2, hw1⟩ ?_ ?_ ?_
          · show os.length - (k + 1) < os.length - k
            omega
          · exact says_cons rfl (says_cons rfl (says_cons rfl (says_cons rfl (says_cons rfl (says_cons (by simp) says_nil)))))
          · repeat' (first | with_reducible exact Ent.refl _ | with_reducible refine Ent.take_eq ?_ ?_ | rfl | with_reducible refine Ent.trans (Ent.drop _ _) ?_)
      · exact sq_ret1 Try.results4 ⟨_, ⟨rfl, _, rfl⟩, Ent.swap _ _ _⟩

end Go.Gsl
