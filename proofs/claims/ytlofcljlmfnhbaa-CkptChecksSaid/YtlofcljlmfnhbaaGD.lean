/- The disk: its memory; the small functions. -/
import Derived.Test.YtlofcljlmfnhbaaGI
import Derived.Test.YtlofcljlmfnhbaaGA
import Derived.Test.YtlofcljlmfnhbaaGE
import Derived.Test.YtlofcljlmfnhbaaGB
namespace Go.Gsl
set_option linter.unusedVariables false
open Go.Proofs

/-! ### the disk's state -/
structure Dk where
  sure : List (List Int)
  dirty : Int → Option (List Int)
  down : Bool
  calls : Int
  fuse : Int
  keep : List Bool

/-- a sector's bytes -/
structure SecWf (xs : List Int) : Prop where
  len : xs.length = 512
  byte : ∀ x ∈ xs, 0 ≤ x ∧ x ≤ 255

structure Dk.Wf (s : Dk) : Prop where
  n1 : 1 ≤ s.sure.length
  n2 : s.sure.length ≤ 16384
  sec : ∀ xs ∈ s.sure, SecWf xs
  dsec : ∀ i xs, s.dirty i = some xs → SecWf xs
  dat : ∀ i xs, s.dirty i = some xs → 0 ≤ i ∧ i < s.sure.length
  f1 : 0 ≤ s.fuse
  f2 : s.fuse ≤ 9223372036854775807
  k1 : s.keep.length ≤ 9223372036854775807

/-- a sector that lies for ever -/
def Sec (v : Value) (xs : List Int) : HProp := fun h => ∃ b r, v = .slice (some ⟨b, 0, none⟩) xs.length (xs.length + r.length) ∧ imm b (.cells (xs.map (Value.int .u8) ++ r).toArray 5 (0, 0)) h
/-- the sectors in a row -/
def Secs (vs : List Value) (xss : List (List Int)) : HProp := fun h => ∀ (i : Nat) (v : Value) (xs : List Int), vs[i]? = some v → xss[i]? = some xs → Sec v xs h
/-- the dirty ones -/
def DirtyS (f : Int → Option Value) (g : Int → Option (List Int)) : HProp := fun h => ∀ j, (f j).isSome = (g j).isSome ∧ ∀ v xs, f j = some v → g j = some xs → Sec v xs h
/-- bools that lie for ever -/
def BoolsI (v : Value) (bs : List Bool) : HProp := fun h => (v = .slice none 0 0 ∧ bs = []) ∨ ∃ b r, v = .slice (some ⟨b, 0, none⟩) bs.length (bs.length + r.length) ∧ imm b (.cells (bs.map Value.bool ++ r).toArray 4 (0, 0)) h

/-- all that lies for ever -/
def DPers (vs : List Value) (f : Int → Option Value) (kv : Value) (s : Dk) : HProp := fun h => Secs vs s.sure h ∧ DirtyS f s.dirty h ∧ BoolsI kv s.keep h

abbrev drow (bS n c m : Nat) (down : Bool) (calls fuse : Int) (kv : Value) : Obj := .cells [.slice (some ⟨bS, 0, none⟩) n c, .map (some m), .bool down, .int .i64 calls, .int .i64 fuse, kv].toArray 85 (0, 0)

structure DX where
  bS : Nat
  m : Nat
  q : Nat
  kv : Value
  vs : List Value
  r : List Value
  f : Int → Option Value

structure DX.Ok (x : DX) (s : Dk) : Prop where
  wf : s.Wf
  len : x.vs.length = s.sure.length
  dom : ∀ j, (x.f j).isSome = (s.dirty j).isSome
  one : ∀ j v, x.f j = some v → v.oneCell' = true

def DISKl (p : Nat) (s : Dk) (x : DX) (F : List Res) : List Res :=
  (p, pts p (drow x.bS x.vs.length (x.vs.length + x.r.length) x.m s.down s.calls s.fuse x.kv)) :: (x.bS, pts x.bS (.cells (x.vs ++ x.r).toArray 67 (0, 0))) :: (x.m, MapI .i64 x.m x.f) :: (x.q, DPers x.vs x.f x.kv s) :: F

/-- A disk stands at p. -/
def DISK (p : Nat) (s : Dk) : HProp := fun h => ∃ x : DX, x.Ok s ∧ hall (DISKl p s x []) h

theorem DISK.openS {p k : Nat} {s : Dk} {F : List Res} {w0 w : World} (hs : Sat w0 w ((k, DISK p s) :: F)) : ∃ x : DX, x.Ok s ∧ Sat w0 w (DISKl p s x F) := by
  obtain ⟨x, hx, h⟩ := hs.opn (φ := fun x : DX => x.Ok s) (p := fun x => hall (DISKl p s x [])) fun y ⟨x, h1, h2⟩ => ⟨x, h1, h2⟩
  exact ⟨x, hx, h.ent (Ent.hall_open _ _ _)⟩

theorem DISK.close {p : Nat} {s : Dk} {x : DX} {F : List Res} (hx : x.Ok s) : Ent (DISKl p s x F) ((p, DISK p s) :: F) :=
  (Ent.hall_close p (DISKl p s x []) F).trans (Ent.head fun _ h => ⟨x, hx, h⟩)

section
variable {P : Program} {ops : List Oper} {Q : Cont} {n : Nat} {w0 : World} {l : List Oper} {e : Env} {Rs F : List Res}
theorem DISK.sc {c : Code} {p : Nat} {s : Dk} [t : Take Rs p (DISK p s) F] (h : ∀ x : DX, x.Ok s → SC P Q n w0 c e (DISKl p s x F)) : SC P Q n w0 c e Rs := by
  intro w hw
  obtain ⟨x, hx, hs⟩ := DISK.openS (hw.ent t.ent)
  exact h x hx w hs
theorem DISK.sw {p : Nat} {s : Dk} [t : Take Rs p (DISK p s) F] (h : ∀ x : DX, x.Ok s → SW P ops Q n w0 l e (DISKl p s x F)) : SW P ops Q n w0 l e Rs := by
  intro w hw
  obtain ⟨x, hx, hs⟩ := DISK.openS (hw.ent t.ent)
  exact h x hx w hs
theorem DISK.scwf' {p : Nat} {s : Dk} [t : Take Rs p (DISK p s) F] (h : s.Wf → SW P ops Q n w0 l e Rs) : SW P ops Q n w0 l e Rs := by
  intro w hw
  obtain ⟨x, hx, hs⟩ := DISK.openS (hw.ent t.ent)
  exact h hx.wf w hw
theorem DISK.scwf {c : Code} {p : Nat} {s : Dk} [t : Take Rs p (DISK p s) F] (h : s.Wf → SC P Q n w0 c e Rs) : SC P Q n w0 c e Rs := by
  intro w hw
  obtain ⟨x, hx, hs⟩ := DISK.openS (hw.ent t.ent)
  exact h hx.wf w hw
end

/-! ### none -/
theorem dNone_nil : Spec Try.prog 41 [.pointer none] [] [] fun F v Rs' => v = .bool true ∧ Rs' = F := by
  refine spec_of Try.func41 rfl Try.ntmps41 rfl ?_
  intro w0 F
  repeat' (first | with_reducible (first | refine go1 ?_ | refine sct ?_ | refine scf ?_ | refine sgr ?_) | fail)
  refine sq_ret1 Try.results41 ?_
  exact ⟨_, ⟨rfl, rfl⟩, Ent.refl _⟩
abbrev dzero : Obj := .cells [.slice none 0 0, .map none, .bool false, .int .i64 0, .int .i64 0, .slice none 0 0].toArray 85 (0, 0)
theorem dNone_zero (p : Nat) : Spec Try.prog 41 [.pointer (some ⟨p, 0, none⟩)] [p] [pts p dzero] fun F v Rs' => v = .bool true ∧ Rs' = (p, pts p dzero) :: F := by
  refine spec_of Try.func41 rfl Try.ntmps41 rfl ?_
  intro w0 F
  repeat' (first | with_reducible (first | refine go1 ?_ | refine sct ?_ | refine scf ?_ | refine sgr ?_) | fail)
  refine sq_ret1 Try.results41 ?_
  exact ⟨_, ⟨rfl, rfl⟩, Ent.refl _⟩
theorem dNone_raw (p bS n c m : Nat) (down : Bool) (calls fuse : Int) (kv : Value) : Spec Try.prog 41 [.pointer (some ⟨p, 0, none⟩)] [p] [pts p (drow bS n c m down calls fuse kv)] fun F v Rs' => v = .bool false ∧ Rs' = (p, pts p (drow bS n c m down calls fuse kv)) :: F := by
  refine spec_of Try.func41 rfl Try.ntmps41 rfl ?_
  intro w0 F
  repeat' (first | with_reducible (first | refine go1 ?_ | refine sct ?_ | refine scf ?_ | refine sgr ?_) | fail)
  refine sq_ret1 Try.results41 ?_
  exact ⟨_, ⟨rfl, rfl⟩, Ent.refl _⟩
theorem dNone_ok (p : Nat) (s : Dk) : Spec Try.prog 41 [.pointer (some ⟨p, 0, none⟩)] [p] [DISK p s] fun F v Rs' => v = .bool false ∧ Rs' = (p, DISK p s) :: F := by
  refine spec_of Try.func41 rfl Try.ntmps41 rfl ?_
  intro w0 F
  refine DISK.sc (p := p) (s := s) fun x hx => ?_
  unfold DISKl
  repeat' (first | with_reducible (first | refine go1 ?_ | refine sct ?_ | refine scf ?_ | refine sgr ?_) | fail)
  refine sq_ret1 Try.results41 ?_
  refine ⟨_, ⟨rfl, rfl⟩, Ent.trans (B := DISKl p s x F) ?_ (DISK.close hx)⟩
  unfold DISKl
  repeat' (first | with_reducible exact Ent.refl _ | with_reducible refine Ent.take_eq ?_ ?_ | rfl | with_reducible refine Ent.trans (Ent.drop _ _) ?_)

/-- what is wrong ahead of a call -/
def Dk.looks (s : Dk) (at' : Int) : Int := if s.down then 6 else if at' < 0 ∨ (s.sure.length : Int) ≤ at' then 20 else 0

theorem dLooks_ok (p : Nat) (s : Dk) (a : Int) : Spec Try.prog 43 [.pointer (some ⟨p, 0, none⟩), .int .i64 a] [p] [DISK p s] fun F v Rs' => v = .int .i64 (s.looks a) ∧ Rs' = (p, DISK p s) :: F := by
  refine spec_of Try.func43 rfl Try.ntmps43 rfl ?_
  intro w0 F
  refine DISK.sc (p := p) (s := s) fun x hx => ?_
  unfold DISKl
  repeat' (first | with_reducible (first | refine go1 ?_ | refine sct ?_ | refine scf ?_ | refine sgr ?_) | ((with_reducible refine sw_call (dNone_raw _ _ _ _ _ _ _ _ _) ?_); rintro _ _ ⟨rfl, rfl⟩) | (with_reducible refine sc_cond (fun h => ?_) (fun h => ?_)) <;> (try (exfalso; first | contradiction | omega | exact h Iff.rfl)) | (with_reducible refine sw_guard_split (fun h => ?_) (fun h => ?_)) <;> (try (exfalso; first | contradiction | omega | exact h Iff.rfl)) | (with_reducible refine sw_pick (fun h => ?_) (fun h => ?_)) <;> (try (exfalso; first | contradiction | omega | exact h Iff.rfl)) | fail)
  all_goals
    refine sq_ret1 Try.results43 ?_
    refine ⟨_, ⟨?_, rfl⟩, Ent.trans (B := DISKl p s x F) ?_ (DISK.close hx)⟩
    · have hl := hx.len
      unfold Dk.looks
      first
        | (rw [if_pos (by assumption)]; done)
        | (rw [if_neg (by assumption), if_pos (by omega)]; done)
        | (rw [if_neg (by assumption), if_neg (by omega)]; done)
    · unfold DISKl
      repeat' (first | with_reducible exact Ent.refl _ | with_reducible refine Ent.take_eq ?_ ?_ | rfl | with_reducible refine Ent.trans (Ent.drop _ _) ?_)

theorem dSectors_ok (p : Nat) (s : Dk) : Spec Try.prog 47 [.pointer (some ⟨p, 0, none⟩)] [p] [DISK p s] fun F v Rs' => v = .int .i64 s.sure.length ∧ Rs' = (p, DISK p s) :: F := by
  refine spec_of Try.func47 rfl Try.ntmps47 rfl ?_
  intro w0 F
  refine DISK.sc (p := p) (s := s) fun x hx => ?_
  unfold DISKl
  repeat' (first | with_reducible (first | refine go1 ?_ | refine sct ?_ | refine scf ?_ | refine sgr ?_) | ((with_reducible refine sw_call (dNone_raw _ _ _ _ _ _ _ _ _) ?_); rintro _ _ ⟨rfl, rfl⟩) | (with_reducible refine sc_cond (fun h => ?_) (fun h => ?_)) <;> (try (exfalso; first | contradiction | omega | exact h Iff.rfl)) | (with_reducible refine sw_guard_split (fun h => ?_) (fun h => ?_)) <;> (try (exfalso; first | contradiction | omega | exact h Iff.rfl)) | (with_reducible refine sw_pick (fun h => ?_) (fun h => ?_)) <;> (try (exfalso; first | contradiction | omega | exact h Iff.rfl)) | fail)
  refine sq_ret1 Try.results47 ?_
  refine ⟨_, ⟨by rw [hx.len], rfl⟩, Ent.trans (B := DISKl p s x F) ?_ (DISK.close hx)⟩
  unfold DISKl
  repeat' (first | with_reducible exact Ent.refl _ | with_reducible refine Ent.take_eq ?_ ?_ | rfl | with_reducible refine Ent.trans (Ent.drop _ _) ?_)

theorem Dk.up_wf {s : Dk} (h : s.Wf) : ({ s with down := false } : Dk).Wf := ⟨h.n1, h.n2, h.sec, h.dsec, h.dat, h.f1, h.f2, h.k1⟩

theorem dRestart_ok (p : Nat) (s : Dk) : Spec Try.prog 26 [.pointer (some ⟨p, 0, none⟩)] [p] [DISK p s] fun F v Rs' => v = .int .i64 0 ∧ Rs' = (p, DISK p { s with down := false }) :: F := by
  refine spec_of Try.func26 rfl Try.ntmps26 rfl ?_
  intro w0 F
  refine DISK.sc (p := p) (s := s) fun x hx => ?_
  unfold DISKl
  repeat' (first | with_reducible (first | refine go1 ?_ | refine sct ?_ | refine scf ?_ | refine sgr ?_) | with_reducible refine sw_store ?_ | ((with_reducible refine sw_call (dNone_raw _ _ _ _ _ _ _ _ _) ?_); rintro _ _ ⟨rfl, rfl⟩) | (with_reducible refine sc_cond (fun h => ?_) (fun h => ?_)) <;> (try (exfalso; first | contradiction | omega | exact h Iff.rfl)) | (with_reducible refine sw_guard_split (fun h => ?_) (fun h => ?_)) <;> (try (exfalso; first | contradiction | omega | exact h Iff.rfl)) | (with_reducible refine sw_pick (fun h => ?_) (fun h => ?_)) <;> (try (exfalso; first | contradiction | omega | exact h Iff.rfl)) | fail)
  refine sq_ret1 Try.results26 ?_
  refine ⟨_, ⟨rfl, rfl⟩, Ent.trans (B := DISKl p { s with down := false } x F) ?_ (DISK.close ⟨Dk.up_wf hx.wf, hx.len, hx.dom, hx.one⟩)⟩
  unfold DISKl
  repeat' (first | with_reducible exact Ent.refl _ | with_reducible refine Ent.take_eq ?_ ?_ | rfl | with_reducible refine Ent.trans (Ent.drop _ _) ?_)

/-- a call counted -/
def Dk.met (s : Dk) : Dk := { s with calls := IntKind.i64.wrap (s.calls + 1), fuse := if s.fuse = 0 then 0 else s.fuse - 1 }
theorem Dk.met_wf {s : Dk} (h : s.Wf) : s.met.Wf := ⟨h.n1, h.n2, h.sec, h.dsec, h.dat, by have := h.f1; unfold Dk.met; simp only; split <;> omega, by have := h.f2; unfold Dk.met; simp only; split <;> omega, h.k1⟩

theorem dMeets_ok (p : Nat) (s : Dk) : Spec Try.prog 57 [.pointer (some ⟨p, 0, none⟩)] [p] [DISK p s] fun F v Rs' => v = .bool (decide (s.fuse = 1)) ∧ Rs' = (p, DISK p s.met) :: F := by
  refine spec_of Try.func57 rfl Try.ntmps57 rfl ?_
  intro w0 F
  refine DISK.sc (p := p) (s := s) fun x hx => ?_
  have h1 := hx.wf.f1
  have h2 := hx.wf.f2
  unfold DISKl
  repeat' (first | with_reducible refine sw_i64 (by omega) ?_ | with_reducible (first | refine go1 ?_ | refine sct ?_ | refine scf ?_ | refine sgr ?_) | with_reducible refine sw_store ?_ | (with_reducible refine sc_cond (fun h => ?_) (fun h => ?_)) <;> (try (exfalso; first | contradiction | omega | exact h Iff.rfl)) | (with_reducible refine sw_guard_split (fun h => ?_) (fun h => ?_)) <;> (try (exfalso; first | contradiction | omega | exact h Iff.rfl)) | (with_reducible refine sw_pick (fun h => ?_) (fun h => ?_)) <;> (try (exfalso; first | contradiction | omega | exact h Iff.rfl)) | fail)
  · refine sq_ret1 Try.results57 ?_
    refine ⟨_, ⟨by simp [h], rfl⟩, Ent.trans (B := DISKl p s.met x F) ?_ (DISK.close ⟨Dk.met_wf hx.wf, hx.len, hx.dom, hx.one⟩)⟩
    unfold DISKl Dk.met
    rw [if_pos h, ← h]
    repeat' (first | with_reducible exact Ent.refl _ | with_reducible refine Ent.take_eq ?_ ?_ | rfl | with_reducible refine Ent.trans (Ent.drop _ _) ?_)
  · refine sq_ret1 Try.results57 ?_
    refine ⟨_, ⟨by congr 1; simp; omega, rfl⟩, Ent.trans (B := DISKl p s.met x F) ?_ (DISK.close ⟨Dk.met_wf hx.wf, hx.len, hx.dom, hx.one⟩)⟩
    unfold DISKl Dk.met
    rw [if_neg h]
    repeat' (first | with_reducible exact Ent.refl _ | with_reducible refine Ent.take_eq ?_ ?_ | rfl | with_reducible refine Ent.trans (Ent.drop _ _) ?_)

/-! ### reading -/
/-- what a sector has -/
def Dk.now (s : Dk) (i : Int) : List Int := (s.dirty i).getD ((s.sure[i.toNat]?).getD [])

theorem Sec.fp {v : Value} {xs : List Int} {h : Hp} (hs : Sec v xs h) : Sec v xs (fpart h) := by
  obtain ⟨c, r, hv, hi⟩ := hs
  exact ⟨c, r, hv, imm_fpart hi⟩
theorem DPers.now1 {x : DX} {s : Dk} {a : Int} {v : Value} {h : Hp} (hp : DPers x.vs x.f x.kv s h) (hv : x.f a = some v) : Sec v (s.now a) h := by
  obtain ⟨h1, h2⟩ := hp.2.1 a
  rw [hv] at h1
  cases hd : s.dirty a with
  | none => rw [hd] at h1; cases h1
  | some xs =>
    have := h2 v xs hv hd
    unfold Dk.now; rw [hd]; exact this
theorem DPers.now2 {x : DX} {s : Dk} {a : Int} {v : Value} {h : Hp} (hp : DPers x.vs x.f x.kv s h) (hf : x.f a = none) (hv : x.vs[a.toNat]? = some v) (hl : x.vs.length = s.sure.length) : Sec v (s.now a) h := by
  obtain ⟨h1, h2⟩ := hp.2.1 a
  rw [hf] at h1
  cases hd : s.dirty a with
  | some xs => rw [hd] at h1; cases h1
  | none =>
    unfold Dk.now; rw [hd]
    have hlt := (List.getElem?_eq_some_iff.1 hv).1
    have : s.sure[a.toNat]? = some (s.sure[a.toNat]'(by omega)) := List.getElem?_eq_getElem _
    rw [this]
    exact hp.1 a.toNat v _ hv this

theorem dNow_ok (p : Nat) (s : Dk) (a : Int) (h0 : 0 ≤ a) (h1 : a < s.sure.length) : Spec Try.prog 46 [.pointer (some ⟨p, 0, none⟩), .int .i64 a] [p] [DISK p s]
    fun F v Rs' => ∃ q, Rs' = (q, Sec v (s.now a)) :: (p, DISK p s) :: F := by
  refine spec_of Try.func46 rfl Try.ntmps46 rfl ?_
  intro w0 F
  refine DISK.sc (p := p) (s := s) fun x hx => ?_
  unfold DISKl
  repeat' (first | with_reducible (first | refine go1 ?_ | refine sct ?_ | refine scf ?_ | refine sgr ?_) | with_reducible refine sw_idx a.toNat (by have := hx.len; omega) ?_ | (with_reducible refine sc_cond (fun h => ?_) (fun h => ?_)) <;> (try (exfalso; first | contradiction | omega | exact h Iff.rfl)) | (with_reducible refine sw_guard_split (fun h => ?_) (fun h => ?_)) <;> (try (exfalso; first | contradiction | omega | exact h Iff.rfl)) | (with_reducible refine sw_pick (fun h => ?_) (fun h => ?_)) <;> (try (exfalso; first | contradiction | omega | exact h Iff.rfl)) | fail)
  · obtain ⟨v, hv⟩ := Option.isSome_iff_exists.1 h
    rw [hv]
    refine sq_ret1 Try.results46 ?_
    refine ⟨_, ⟨x.q, rfl⟩, ?_⟩
    refine Ent.trans (Ent.dup_take (k := x.q) (k' := x.q) (r' := Sec v (s.now a)) fun _ hp => (DPers.now1 hp hv).fp) (Ent.cons _ ?_)
    refine Ent.trans (B := DISKl p s x F) ?_ (DISK.close hx)
    unfold DISKl
    repeat' (first | with_reducible exact Ent.refl _ | with_reducible refine Ent.take_eq ?_ ?_ | rfl | with_reducible refine Ent.trans (Ent.drop _ _) ?_)
  · have hf : x.f a = none := by cases hq : x.f a with
      | none => rfl
      | some v => rw [hq] at h; exact absurd rfl h
    have hlt : a.toNat < x.vs.length := by have := hx.len; omega
    refine sw_loadAt x.vs[a.toNat] (by rw [List.getElem?_append_left hlt]; exact List.getElem?_eq_getElem _) ?_
    repeat' (first | with_reducible (first | refine go1 ?_ | refine sct ?_ | refine scf ?_ | refine sgr ?_) | fail)
    refine sq_ret1 Try.results46 ?_
    refine ⟨_, ⟨x.q, rfl⟩, ?_⟩
    refine Ent.trans (Ent.dup_take (k := x.q) (k' := x.q) (r' := Sec x.vs[a.toNat] (s.now a)) fun _ hp => (DPers.now2 hp hf (List.getElem?_eq_getElem _) hx.len).fp) (Ent.cons _ ?_)
    refine Ent.trans (B := DISKl p s x F) ?_ (DISK.close hx)
    unfold DISKl
    repeat' (first | with_reducible exact Ent.refl _ | with_reducible refine Ent.take_eq ?_ ?_ | rfl | with_reducible refine Ent.trans (Ent.drop _ _) ?_)

theorem Dk.now_wf {s : Dk} (h : s.Wf) {a : Int} (h0 : 0 ≤ a) (h1 : a < s.sure.length) : SecWf (s.now a) := by
  unfold Dk.now
  cases hd : s.dirty a with
  | some xs => exact h.dsec a xs hd
  | none =>
    have : s.sure[a.toNat]? = some (s.sure[a.toNat]'(by omega)) := List.getElem?_eq_getElem _
    rw [this]
    exact h.sec _ (List.getElem_mem _)

/-- a sector is read -/
theorem Sec.reads {v : Value} {xs : List Int} {q : Nat} {w0 w : World} {F : List Res} (hw : Sat w0 w ((q, Sec v xs) :: F)) : ∃ b r, v = .slice (some ⟨b, 0, none⟩) xs.length (xs.length + r) ∧ ∀ j u, (xs.map (Value.int .u8))[j]? = some u → w.cell? (Addr.add ⟨b, 0, none⟩ j) = some u := by
  obtain ⟨⟨b, r⟩, hv, h1⟩ := hw.opn (α := Nat × List Value) (φ := fun a => v = .slice (some ⟨a.1, 0, none⟩) xs.length (xs.length + a.2.length)) (p := fun a => imm a.1 (.cells (xs.map (Value.int .u8) ++ a.2).toArray 5 (0, 0))) (by rintro y ⟨b, r, hv, hi⟩; exact ⟨(b, r), hv, hi⟩)
  refine ⟨b, r.length, hv, fun j u hj => cell_row (h1.get_imm (Take.here _ _ _)) ?_⟩
  rw [Nat.zero_add, List.getElem?_append_left (by simpa using (List.getElem?_eq_some_iff.1 hj).1)]
  exact hj

theorem dRead_bad (p : Nat) (s : Dk) (a : Int) (hb : s.looks a ≠ 0) : Spec Try.prog 30 [.pointer (some ⟨p, 0, none⟩), .int .i64 a] [p] [DISK p s]
    fun F v Rs' => v = .tuple #[.slice none 0 0, .int .i64 (s.looks a)] ∧ Rs' = (p, DISK p s) :: F := by
  refine spec_of Try.func30 rfl Try.ntmps30 rfl ?_
  intro w0 F
  repeat' (first | with_reducible (first | refine go1 ?_ | refine sct ?_ | refine scf ?_ | refine sgr ?_) | ((with_reducible refine sw_call (dLooks_ok p s a) ?_); rintro _ _ ⟨rfl, rfl⟩) | (with_reducible refine sc_cond (fun h => ?_) (fun h => ?_)) <;> (try (exfalso; first | contradiction | omega | exact h Iff.rfl)) | (with_reducible refine sw_guard_split (fun h => ?_) (fun h => ?_)) <;> (try (exfalso; first | contradiction | omega | exact h Iff.rfl)) | (with_reducible refine sw_pick (fun h => ?_) (fun h => ?_)) <;> (try (exfalso; first | contradiction | omega | exact h Iff.rfl)) | fail)
  refine sq_ret2 Try.results30 ?_
  refine ⟨_, ⟨rfl, rfl⟩, ?_⟩
  repeat' (first | with_reducible exact Ent.refl _ | with_reducible refine Ent.take_eq ?_ ?_ | rfl | with_reducible refine Ent.trans (Ent.drop _ _) ?_)

theorem dRead_ok (p : Nat) (s : Dk) (a : Int) (hb : s.looks a = 0) : Spec Try.prog 30 [.pointer (some ⟨p, 0, none⟩), .int .i64 a] [p] [DISK p s]
    fun F v Rs' => ∃ b, v = .tuple #[.slice (some ⟨b, 0, none⟩) 512 512, .int .i64 0] ∧ Rs' = (b, pts b (.cells ((s.now a).map (Value.int .u8)).toArray 5 (0, 0))) :: (p, DISK p s) :: F := by
  refine spec_of Try.func30 rfl Try.ntmps30 rfl ?_
  intro w0 F
  repeat' (first | with_reducible (first | refine go1 ?_ | refine sct ?_ | refine scf ?_ | refine sgr ?_) | ((with_reducible refine sw_call (dLooks_ok p s a) ?_); rintro _ _ ⟨rfl, rfl⟩) | with_reducible refine sw_makeSlice 512 512 ⟨rfl, rfl, by omega, by omega, by omega⟩ fun b => ?_ | (with_reducible refine sc_cond (fun h => ?_) (fun h => ?_)) <;> (try (exfalso; first | contradiction | omega | exact h Iff.rfl)) | (with_reducible refine sw_guard_split (fun h => ?_) (fun h => ?_)) <;> (try (exfalso; first | contradiction | omega | exact h Iff.rfl)) | (with_reducible refine sw_pick (fun h => ?_) (fun h => ?_)) <;> (try (exfalso; first | contradiction | omega | exact h Iff.rfl)) | fail)
  have hin : 0 ≤ a ∧ a < s.sure.length := by
    unfold Dk.looks at hb
    split at hb
    · cases hb
    · split at hb
      · cases hb
      · omega
  refine DISK.scwf' (p := p) (s := s) fun hwf => ?_
  have hs := Dk.now_wf hwf hin.1 hin.2
  repeat' (first | with_reducible (first | refine go1 ?_ | refine sct ?_ | refine scf ?_ | refine sgr ?_) | ((with_reducible refine sw_call (dNow_ok p s a hin.1 hin.2) ?_); rintro v _ ⟨q, rfl⟩) | fail)
  refine sw_opn (k := q) (φ := fun c : Nat × List Value => v = .slice (some ⟨c.1, 0, none⟩) (s.now a).length ((s.now a).length + c.2.length)) (p := fun c => imm c.1 (.cells ((s.now a).map (Value.int .u8) ++ c.2).toArray 5 (0, 0))) (by rintro y ⟨b, r, hv, hi⟩; exact ⟨(b, r), hv, hi⟩) ?_
  rintro ⟨b2, r2⟩ rfl
  simp only
  rw [hs.len]
  refine sw_copy ((s.now a).map (Value.int .u8)) ?_ ?_ ?_ ?_
  · exact src_imm q
  · exact one_ints _ _
  · rw [List.length_map, hs.len, List.length_replicate]; omega
  repeat' (first | with_reducible (first | refine go1 ?_ | refine sct ?_ | refine scf ?_ | refine sgr ?_) | fail)
  refine sq_ret2 Try.results30 ?_
  refine ⟨_, ⟨b, rfl, rfl⟩, ?_⟩
  have e1 : List.take 0 (List.replicate 512 (Value.int .u8 0)) ++ (s.now a).map (Value.int .u8) ++ List.drop (0 + ((s.now a).map (Value.int .u8)).length) (List.replicate 512 (Value.int .u8 0)) = (s.now a).map (Value.int .u8) := by
    rw [List.drop_eq_nil_of_le (by rw [List.length_map, hs.len, List.length_replicate]; omega), List.take_zero, List.nil_append, List.append_nil]
  rw [e1]
  repeat' (first | with_reducible exact Ent.refl _ | with_reducible refine Ent.take_eq ?_ ?_ | rfl | with_reducible refine Ent.trans (Ent.drop _ _) ?_)
end Go.Gsl

namespace Go.Gsl
set_option linter.unusedVariables false
open Go.Proofs

/-- slices.Clone -/
theorem clB_ok (k : Nat) (r : HProp) (a : Option Addr) (m c : Nat) (src : List Value) (hr : Reads r a src) (h1 : ∀ v ∈ src, v.oneCell' = true) (hl : src.length = m) (hm : m ≤ 140737488355328) :
    Spec Try.prog 35 [.slice a m c] [k] [r] fun F v Rs' => (a = none ∧ v = .slice none 0 0 ∧ Rs' = (k, r) :: F) ∨
      (a ≠ none ∧ ∃ b t, v = .slice (some ⟨b, 0, none⟩) m (m + t.length) ∧ Rs' = (b, pts b (.cells (src ++ t).toArray 5 (0, 0))) :: (k, r) :: F) := by
  refine spec_of Try.func35 rfl Try.ntmps35 rfl ?_
  intro w0 F
  repeat' (first | with_reducible (first | refine go1 ?_ | refine sct ?_ | refine scf ?_ | refine sgr ?_) | (with_reducible refine sc_cond (fun h => ?_) (fun h => ?_)) <;> (try (exfalso; first | contradiction | omega | exact h Iff.rfl)) | fail)
  · refine sq_ret1 Try.results35 ?_
    exact ⟨_, .inl ⟨by simpa using h, rfl, rfl⟩, Ent.refl _⟩
  · refine sw_buildSlice [] (by omega) rfl fun b0 => ?_
    repeat' (first | with_reducible (first | refine go1 ?_ | refine sct ?_ | refine scf ?_ | refine sgr ?_) | fail)
    refine sw_append (src := src) ?_ h1 ?_ fun b t => ?_
    · exact fun w hw => hr.sat (k := k) hw
    · exact ⟨by omega, rfl, hl, by omega, by omega⟩
    simp only [Nat.zero_add, List.take_nil, List.nil_append]
    repeat' (first | with_reducible (first | refine go1 ?_ | refine sct ?_ | refine scf ?_ | refine sgr ?_) | fail)
    refine sq_ret1 Try.results35 ?_
    exact ⟨_, .inr ⟨by simpa using h, b, t, rfl, rfl⟩, Ent.refl _⟩
/-- slices.Clone -/
theorem clBool_ok (k : Nat) (r : HProp) (a : Option Addr) (m c : Nat) (src : List Value) (hr : Reads r a src) (h1 : ∀ v ∈ src, v.oneCell' = true) (hl : src.length = m) (hm : m ≤ 140737488355328) :
    Spec Try.prog 42 [.slice a m c] [k] [r] fun F v Rs' => (a = none ∧ v = .slice none 0 0 ∧ Rs' = (k, r) :: F) ∨
      (a ≠ none ∧ ∃ b t, v = .slice (some ⟨b, 0, none⟩) m (m + t.length) ∧ Rs' = (b, pts b (.cells (src ++ t).toArray 4 (0, 0))) :: (k, r) :: F) := by
  refine spec_of Try.func42 rfl Try.ntmps42 rfl ?_
  intro w0 F
  repeat' (first | with_reducible (first | refine go1 ?_ | refine sct ?_ | refine scf ?_ | refine sgr ?_) | (with_reducible refine sc_cond (fun h => ?_) (fun h => ?_)) <;> (try (exfalso; first | contradiction | omega | exact h Iff.rfl)) | fail)
  · refine sq_ret1 Try.results42 ?_
    exact ⟨_, .inl ⟨by simpa using h, rfl, rfl⟩, Ent.refl _⟩
  · refine sw_buildSlice [] (by omega) rfl fun b0 => ?_
    repeat' (first | with_reducible (first | refine go1 ?_ | refine sct ?_ | refine scf ?_ | refine sgr ?_) | fail)
    refine sw_append (src := src) ?_ h1 ?_ fun b t => ?_
    · exact fun w hw => hr.sat (k := k) hw
    · exact ⟨by omega, rfl, hl, by omega, by omega⟩
    simp only [Nat.zero_add, List.take_nil, List.nil_append]
    repeat' (first | with_reducible (first | refine go1 ?_ | refine sct ?_ | refine scf ?_ | refine sgr ?_) | fail)
    refine sq_ret1 Try.results42 ?_
    exact ⟨_, .inr ⟨by simpa using h, b, t, rfl, rfl⟩, Ent.refl _⟩
/-- a sector that begins with a byte, all the rest being another one -/
def secOf (a b : Int) : List Int := a :: List.replicate 511 b
theorem secOf_wf {a b : Int} (ha : 0 ≤ a ∧ a ≤ 255) (hb : 0 ≤ b ∧ b ≤ 255) : SecWf (secOf a b) :=
  ⟨by unfold secOf; rw [List.length_cons, List.length_replicate], fun x hx => by
    unfold secOf at hx
    rcases List.mem_cons.1 hx with rfl | hx
    · exact ha
    · rw [List.eq_of_mem_replicate hx]; exact hb⟩

theorem Sec.left {v : Value} {xs : List Int} {x y : Hp} (h : Sec v xs x) : Sec v xs (hjoin x y) := by
  obtain ⟨b, r, hv, hi⟩ := h
  exact ⟨b, r, hv, imm_left hi⟩
theorem Sec.right {v : Value} {xs : List Int} {x y : Hp} (hd : hdisj x y) (h : Sec v xs y) : Sec v xs (hjoin x y) := by
  rw [hjoin_comm hd]; exact h.left
theorem Secs.left {vs : List Value} {ss : List (List Int)} {x y : Hp} (h : Secs vs ss x) : Secs vs ss (hjoin x y) := fun i v xs h1 h2 => (h i v xs h1 h2).left
theorem DirtyS.left {f : Int → Option Value} {g : Int → Option (List Int)} {x y : Hp} (h : DirtyS f g x) : DirtyS f g (hjoin x y) := fun j => ⟨(h j).1, fun v xs h1 h2 => ((h j).2 v xs h1 h2).left⟩
theorem BoolsI.left {v : Value} {bs : List Bool} {x y : Hp} (h : BoolsI v bs x) : BoolsI v bs (hjoin x y) := by
  rcases h with h | ⟨b, r, hv, hi⟩
  · exact .inl h
  · exact .inr ⟨b, r, hv, imm_left hi⟩
end Go.Gsl

namespace Go.Gsl
set_option linter.unusedVariables false
open Go.Proofs Go.Shelf

shelf_lay Lays.n189 Nm 189 at Try as Try.laysSort

theorem sortI_ok (b c : Nat) (zs : List Int) (r : List Value) (t : TypeId) (hl : zs.length < 4611686018427387904) :
    Spec Try.prog 70 [.slice (some ⟨b, 0, none⟩) zs.length c] [b] [pts b (.cells (zs.map (Value.int .i64) ++ r).toArray t (0, 0))] fun F v Rs' => v = .tuple #[] ∧
      Rs' = (b, pts b (.cells ((zs.mergeSort leI).map (Value.int .i64) ++ r).toArray t (0, 0))) :: F := sort_spec Try.laysSort b c zs r t hl
theorem sortI_nil (a : Option Addr) (c : Nat) : Spec Try.prog 70 [.slice a 0 c] [] [] fun F v Rs' => v = .tuple #[] ∧ Rs' = F := sort_spec_nil Try.laysSort a c

abbrev mbx (m : Nat) : Obj := .cells [.map (some m)].toArray 83 (0, 0)

/-- maps.Keys's iterator -/
theorem keysBi_iter (bx m : Nat) (f : Int → Option Value) : IterC Try.prog 72 [.pointer (some ⟨bx, 0, none⟩)] [bx, m] [pts bx (mbx m), MapI .i64 m f] (Value.int .i64) (fun pre i => (f i).isSome = true ∧ i ∉ pre) (fun xs => xs.Nodup ∧ ∀ i, i ∈ xs ↔ (f i).isSome = true) := by
  intro l J Jx hY
  refine spec_of Try.func72 rfl Try.ntmps72 rfl ?_
  intro w0 F
  repeat' (first | with_reducible (first | refine go1 ?_ | refine sct ?_ | refine scf ?_ | refine sgr ?_) | fail)
  refine sw_range (k := .i64) fun r N => ?_
  repeat' (first | with_reducible (first | refine go1 ?_ | refine sct ?_ | refine scf ?_ | refine sgr ?_) | fail)
  refine sc_loop (α := { D : List (Int × Value) // (D.map (·.1)).Nodup ∧ ∀ i v, (i, v) ∈ D → f i = some v }) (fun D => [(0, .func (.yield l) #[] #[]), (5, .pointer (some ⟨r, 0, none⟩))])
    (fun D => (r, ItI .i64 m r f N D.1) :: (bx, pts bx (mbx m)) :: (l, J (D.1.map (·.1))) :: F) (fun D => N - D.1.length) ⟨[], by simp, by simp⟩ ?_ ?_ ?_
  · exact says_cons rfl (says_cons rfl says_nil)
  · repeat' (first | with_reducible exact Ent.refl _ | with_reducible refine Ent.take_eq ?_ ?_ | rfl | with_reducible refine Ent.trans (Ent.drop _ _) ?_)
  · rintro ⟨D, hn, hD⟩ e
    simp only
    simp only [List.cons_append, List.nil_append]
    refine sc_seq ?_
    refine sc_region ?_
    refine sw_next ?_ ?_
    · intro hall
      repeat' (first | with_reducible (first | refine go1 ?_ | refine sct ?_ | refine scf ?_ | refine sgr ?_) | fail)
      refine sq_end0 Try.results72 ?_
      refine ⟨_, ⟨rfl, .inl ⟨D.map (·.1), ⟨hn, fun i => ?_⟩, rfl⟩⟩, ?_⟩
      · constructor
        · intro hi
          obtain ⟨⟨a, v⟩, ha, rfl⟩ := List.mem_map.1 hi
          rw [hD a v ha]; rfl
        · intro hi
          obtain ⟨v, hv⟩ := Option.isSome_iff_exists.1 hi
          exact List.mem_map.2 ⟨(i, v), hall i v hv, rfl⟩
      · show Ent _ ((l, J (D.map (·.1))) :: (bx, pts bx (mbx m)) :: (m, MapI .i64 m f) :: F)
        refine Ent.trans ItI.map ?_
        repeat' (first | with_reducible exact Ent.refl _ | with_reducible refine Ent.take_eq ?_ ?_ | rfl | with_reducible refine Ent.trans (Ent.drop _ _) ?_)
    · intro i v hi hno hlt
      have hnx : (f i).isSome = true ∧ i ∉ D.map (·.1) := ⟨by rw [hi]; rfl, fun hm => by
        obtain ⟨⟨a, u⟩, ha, rfl⟩ := List.mem_map.1 hm
        exact hno u ha⟩
      repeat' (first | with_reducible (first | refine go1 ?_ | refine sct ?_ | refine scf ?_ | refine sgr ?_) | ((with_reducible refine sw_yield rfl (hY _ i hnx) ?_); rintro _ _ (⟨rfl, rfl⟩ | ⟨rfl, rfl⟩)) | (with_reducible refine sc_cond (fun h => ?_) (fun h => ?_)) <;> (try (exfalso; first | contradiction | omega | exact h Iff.rfl)) | fail)
      · refine sq_round ⟨D ++ [(i, v)], ?_, ?_⟩ ?_ ?_ ?_
        · rw [List.map_append]
          exact List.nodup_append.2 ⟨hn, by simp, fun a ha b hb => by simp at hb; subst hb; rintro rfl; exact hnx.2 ha⟩
        · intro j u hj
          rcases List.mem_append.1 hj with h | h
          · exact hD j u h
          · simp at h; obtain ⟨rfl, rfl⟩ := h; exact hi
        · show N - (D ++ [(i, v)]).length < N - D.length
          rw [List.length_append, List.length_singleton]; omega
        · exact says_cons rfl (says_cons rfl says_nil)
        · have e1 : (D ++ [(i, v)]).map (·.1) = D.map (·.1) ++ [i] := by simp
          show Ent _ ((r, ItI .i64 m r f N (D ++ [(i, v)])) :: (bx, pts bx (mbx m)) :: (l, J ((D ++ [(i, v)]).map (·.1))) :: F)
          rw [e1]
          repeat' (first | with_reducible exact Ent.refl _ | with_reducible refine Ent.take_eq ?_ ?_ | rfl | with_reducible refine Ent.trans (Ent.drop _ _) ?_)
      · refine sq_ret0 Try.results72 ?_
        refine ⟨_, ⟨rfl, .inr ⟨D.map (·.1), i, hnx, rfl⟩⟩, ?_⟩
        show Ent _ ((l, Jx (D.map (·.1) ++ [i])) :: (bx, pts bx (mbx m)) :: (m, MapI .i64 m f) :: F)
        refine Ent.cons _ (Ent.trans ItI.map ?_)
        repeat' (first | with_reducible exact Ent.refl _ | with_reducible refine Ent.take_eq ?_ ?_ | rfl | with_reducible refine Ent.trans (Ent.drop _ _) ?_)

theorem keysB_ok (m : Nat) : Spec Try.prog 69 [.map (some m)] [] [] fun F v Rs' => ∃ bx, v = .func (.func 72) #[] #[.pointer (some ⟨bx, 0, none⟩)] ∧ Rs' = (bx, pts bx (mbx m)) :: F := by
  refine spec_of Try.func69 rfl Try.ntmps69 rfl ?_
  intro w0 F
  repeat' (first | with_reducible (first | refine go1 ?_ | refine sct ?_ | refine scf ?_ | refine sgr ?_) | fail)
  refine sw_box fun bx => ?_
  repeat' (first | with_reducible (first | refine go1 ?_ | refine sct ?_ | refine scf ?_ | refine sgr ?_) | fail)
  refine sq_ret1 Try.results69 ?_
  exact ⟨_, ⟨bx, rfl, rfl⟩, Ent.refl _⟩

/-- a row of ints that grows: what a box's slice holds -/
def IntsB (bx : Nat) (xs : List Int) : HProp := hor (hand (xs = []) (hall [(bx, pts bx (.cells [.slice none 0 0].toArray 111 (0, 0)))]))
  (hex fun y : Nat × List Value => hall [(bx, pts bx (.cells [.slice (some ⟨y.1, 0, none⟩) xs.length (xs.length + y.2.length)].toArray 111 (0, 0))), (y.1, pts y.1 (.cells (xs.map (Value.int .i64) ++ y.2).toArray 3 (0, 0)))])

theorem ints_bound {xs : List Int} (hn : xs.Nodup) (h : ∀ i ∈ xs, 0 ≤ i ∧ i < 16384) : xs.length ≤ 16384 := by
  have := nodup_le xs ((List.range 16384).map Int.ofNat) hn fun i hi => by
    obtain ⟨h1, h2⟩ := h i hi
    exact List.mem_map.2 ⟨i.toNat, List.mem_range.2 (by omega), Int.toNat_of_nonneg h1⟩
  rwa [List.length_map, List.length_range] at this

/-- what is dirty, in order -/
structure Keys (f : Int → Option Value) (ks : List Int) : Prop where
  nodup : ks.Nodup
  mem : ∀ i, i ∈ ks ↔ (f i).isSome = true
  le : ks.Pairwise (· ≤ ·)

theorem dWritten_ok (p bS n c m : Nat) (down : Bool) (calls fuse : Int) (kv : Value) (f : Int → Option Value) (hf : ∀ i, (f i).isSome = true → 0 ≤ i ∧ i < 16384) :
    Spec Try.prog 61 [.pointer (some ⟨p, 0, none⟩)] [p, m] [pts p (drow bS n c m down calls fuse kv), MapI .i64 m f] fun F v Rs' => ∃ ks, Keys f ks ∧
      ((ks = [] ∧ v = .slice none 0 0 ∧ Rs' = (p, pts p (drow bS n c m down calls fuse kv)) :: (m, MapI .i64 m f) :: F) ∨
       (∃ b r, v = .slice (some ⟨b, 0, none⟩) ks.length (ks.length + r.length) ∧ Rs' = (b, pts b (.cells (ks.map (Value.int .i64) ++ r).toArray 3 (0, 0))) :: (p, pts p (drow bS n c m down calls fuse kv)) :: (m, MapI .i64 m f) :: F)) := by
  refine spec_of Try.func61 rfl Try.ntmps61 rfl ?_
  intro w0 F
  repeat' (first | with_reducible (first | refine go1 ?_ | refine sct ?_ | refine scf ?_ | refine sgr ?_) | fail)
  refine sw_alloc fun bl => ?_
  repeat' (first | with_reducible (first | refine go1 ?_ | refine sct ?_ | refine scf ?_ | refine sgr ?_) | ((with_reducible refine sw_call (keysB_ok m) ?_); rintro _ _ ⟨bx, rfl, rfl⟩) | fail)
  refine sc_rangeFunc (keysBi_iter bx m f) rfl (fun pre => (bl, hand (pre.Nodup ∧ ∀ i ∈ pre, (f i).isSome = true) (IntsB bl pre)) :: (p, pts p (drow bS n c m down calls fuse kv)) :: F) (fun _ _ => falseR) ?_ ?_ ?_ ?_
  · refine Ent.and1 ⟨by simp, by simp⟩ (Ent.or1 (Ent.and1 rfl (Ent.hall1 ?_)))
    simp only [List.cons_append, List.nil_append]
    repeat' (first | with_reducible exact Ent.refl _ | with_reducible refine Ent.take_eq ?_ ?_ | rfl | with_reducible refine Ent.trans (Ent.drop _ _) ?_)
  · intro w1 lp rc F' pre i hN
    simp only [List.cons_append]
    repeat' (first | with_reducible (first | refine go1 ?_ | refine sct ?_ | refine scf ?_ | refine sgr ?_) | with_reducible refine sq_rAssign ?_ | fail)
    refine sw_and bl fun hp => ?_
    have hbd := ints_bound hp.1 fun j hj => hf j (hp.2 j hj)
    have hp' : (pre ++ [i]).Nodup ∧ ∀ j ∈ pre ++ [i], (f j).isSome = true := ⟨List.nodup_append.2 ⟨hp.1, by simp, fun a ha b hb => by simp at hb; subst hb; rintro rfl; exact hN.2 ha⟩, fun j hj => by
      rcases List.mem_append.1 hj with h | h
      · exact hp.2 j h
      · simp at h; subst h; exact hN.1⟩
    unfold IntsB
    refine sw_or bl (sw_and bl fun hp0 => sw_hall bl ?_) (sw_ex bl fun y => sw_hall bl ?_)
    · subst hp0
      simp only [List.cons_append, List.nil_append]
      repeat' (first | with_reducible (first | refine go1 ?_ | refine sct ?_ | refine scf ?_ | refine sgr ?_) | fail)
      refine sw_buildSlice [.int .i64 i] (by omega) rfl fun b0 => ?_
      repeat' (first | with_reducible (first | refine go1 ?_ | refine sct ?_ | refine scf ?_ | refine sgr ?_) | fail)
      refine sw_append_nil (src := [.int .i64 i]) src_pts0 ⟨by simp, rfl, by simp, by simp⟩ fun b1 r => ?_
      repeat' (first | with_reducible (first | refine go1 ?_ | refine sct ?_ | refine scf ?_ | refine sgr ?_) | with_reducible refine sw_store ?_ | fail)
      refine sq_rEnd ?_
      simp only [List.cons_append]
      refine Ent.and1 hp' (Ent.or2 (Ent.ex1 (b1, r) (Ent.hall1 ?_)))
      simp only [List.cons_append, List.nil_append]
      repeat' (first | with_reducible exact Ent.refl _ | with_reducible refine Ent.take_eq ?_ ?_ | rfl | with_reducible refine Ent.trans (Ent.drop _ _) ?_)
    · obtain ⟨b1, r⟩ := y
      simp only [List.cons_append, List.nil_append]
      repeat' (first | with_reducible (first | refine go1 ?_ | refine sct ?_ | refine scf ?_ | refine sgr ?_) | fail)
      refine sw_buildSlice [.int .i64 i] (by omega) rfl fun b0 => ?_
      repeat' (first | with_reducible (first | refine go1 ?_ | refine sct ?_ | refine scf ?_ | refine sgr ?_) | fail)
      refine sw_append (src := [.int .i64 i]) src_pts0 (by simp [Value.oneCell']) ⟨by omega, by rw [List.length_append, List.length_map], rfl, ?_, ?_⟩ fun b2 r2 => ?_
      · simp only [List.length_cons, List.length_nil]; omega
      · simp only [List.length_cons, List.length_nil]; omega
      have e1 : List.take pre.length (pre.map (Value.int .i64) ++ r) ++ [Value.int .i64 i] ++ r2 = (pre ++ [i]).map (Value.int .i64) ++ r2 := by
        rw [List.take_left' (by rw [List.length_map]), List.map_append]; rfl
      have e2 : pre.length + [Value.int .i64 i].length = (pre ++ [i]).length := by rw [List.length_append]; rfl
      rw [e1, e2]
      repeat' (first | with_reducible (first | refine go1 ?_ | refine sct ?_ | refine scf ?_ | refine sgr ?_) | with_reducible refine sw_store ?_ | fail)
      refine sq_rEnd ?_
      simp only [List.cons_append]
      refine Ent.and1 hp' (Ent.or2 (Ent.ex1 (b2, r2) (Ent.hall1 ?_)))
      simp only [List.cons_append, List.nil_append]
      repeat' (first | with_reducible exact Ent.refl _ | with_reducible refine Ent.take_eq ?_ ?_ | rfl | with_reducible refine Ent.trans (Ent.drop _ _) ?_)
  · intro r xs hD
    show SQ _ _ _ _ _ ((r, defers0 r) :: (bx, pts bx (mbx m)) :: (m, MapI .i64 m f) :: (bl, hand (xs.Nodup ∧ ∀ i ∈ xs, (f i).isSome = true) (IntsB bl xs)) :: (p, pts p (drow bS n c m down calls fuse kv)) :: F)
    refine sq_and bl fun hp => ?_
    have hbd := ints_bound hp.1 fun j hj => hf j (hp.2 j hj)
    repeat' (first | with_reducible (first | refine go1 ?_ | refine sct ?_ | refine scf ?_ | refine sgr ?_) | with_reducible refine sq_then_m ?_ | with_reducible refine sq_block_m ?_ | fail)
    unfold IntsB
    refine sw_or bl (sw_and bl fun hp0 => sw_hall bl ?_) (sw_ex bl fun y => sw_hall bl ?_)
    · subst hp0
      simp only [List.cons_append, List.nil_append]
      repeat' (first | with_reducible (first | refine go1 ?_ | refine sct ?_ | refine scf ?_ | refine sgr ?_) | ((with_reducible refine sw_call (sortI_nil none 0) ?_); rintro _ _ ⟨rfl, rfl⟩) | with_reducible refine sq_then_m ?_ | fail)
      refine sq_ret_m rfl ?_
      refine sq_ret1 Try.results61 ?_
      refine ⟨_, ⟨[], ⟨by simp, hD.2, by simp⟩, .inl ⟨rfl, rfl, rfl⟩⟩, ?_⟩
      repeat' (first | with_reducible exact Ent.refl _ | with_reducible refine Ent.take_eq ?_ ?_ | rfl | with_reducible refine Ent.trans (Ent.drop _ _) ?_)
    · obtain ⟨b1, r1⟩ := y
      simp only [List.cons_append, List.nil_append]
      repeat' (first | with_reducible (first | refine go1 ?_ | refine sct ?_ | refine scf ?_ | refine sgr ?_) | ((with_reducible refine sw_call (sortI_ok b1 _ xs r1 _ (by omega)) ?_); rintro _ _ ⟨rfl, rfl⟩) | with_reducible refine sq_then_m ?_ | fail)
      refine sq_ret_m rfl ?_
      refine sq_ret1 Try.results61 ?_
      have hpm := List.mergeSort_perm xs leI
      refine ⟨_, ⟨xs.mergeSort leI, ⟨hpm.nodup_iff.2 hp.1, fun i => by rw [hpm.mem_iff]; exact hD.2 i, ?_⟩, .inr ⟨b1, r1, by rw [List.length_mergeSort], rfl⟩⟩, ?_⟩
      · have := List.pairwise_mergeSort (le := leI) (fun a b c h1 h2 => by simp only [leI, decide_eq_true_eq] at *; omega) (fun a b => by simp only [leI, Bool.or_eq_true, decide_eq_true_eq]; omega) xs
        exact this.imp fun h => by simpa [leI] using h
      · repeat' (first | with_reducible exact Ent.refl _ | with_reducible refine Ent.take_eq ?_ ?_ | rfl | with_reducible refine Ent.trans (Ent.drop _ _) ?_)
  · intro r c pre i hN
    exact sc_false (A := (r, defers0 r) :: ([bx, m].zip [pts bx (mbx m), MapI .i64 m f]))
end Go.Gsl

namespace Go.Gsl
set_option linter.unusedVariables false
open Go.Proofs

/-- what is dirty, in order -/
structure KeysD (g : Int → Option (List Int)) (ks : List Int) : Prop where
  nodup : ks.Nodup
  mem : ∀ i, i ∈ ks ↔ (g i).isSome = true
  le : ks.Pairwise (· ≤ ·)

/-- which of the dirty sectors stay: by their order -/
def goV (f : Int → Option Value) : List Int → List Bool → List Value → List Value
  | k :: ks, b :: bs, vs => goV f ks bs (if b = true then vs.set k.toNat ((f k).getD (.slice none 0 0)) else vs)
  | _, _, vs => vs
def goS (g : Int → Option (List Int)) : List Int → List Bool → List (List Int) → List (List Int)
  | k :: ks, b :: bs, ss => goS g ks bs (if b = true then ss.set k.toNat ((g k).getD []) else ss)
  | _, _, ss => ss

theorem goV_len (f : Int → Option Value) : ∀ (ks : List Int) (bs : List Bool) (vs : List Value), (goV f ks bs vs).length = vs.length
  | [], _, _ => rfl
  | _ :: _, [], _ => rfl
  | k :: ks, b :: bs, vs => by
    rw [goV, goV_len f ks bs]
    split <;> simp
theorem goS_len (g : Int → Option (List Int)) : ∀ (ks : List Int) (bs : List Bool) (ss : List (List Int)), (goS g ks bs ss).length = ss.length
  | [], _, _ => rfl
  | _ :: _, [], _ => rfl
  | k :: ks, b :: bs, ss => by
    rw [goS, goS_len g ks bs]
    split <;> simp
theorem goV_nil (f : Int → Option Value) (ks : List Int) (vs : List Value) : goV f ks [] vs = vs := by cases ks <;> rfl

theorem Secs.set {vs : List Value} {ss : List (List Int)} {h : Hp} {j : Nat} {v : Value} {xs : List Int} (hs : Secs vs ss h) (hv : Sec v xs h) : Secs (vs.set j v) (ss.set j xs) h := by
  intro i u ys hu hy
  rw [List.getElem?_set] at hu hy
  split at hu
  · rename_i e
    rw [if_pos e] at hy
    split at hu
    · split at hy
      · cases hu; cases hy; exact hv
      · cases hy
    · cases hu
  · rename_i e
    rw [if_neg e] at hy
    exact hs i u ys hu hy

theorem goV_secs {f : Int → Option Value} {g : Int → Option (List Int)} {h : Hp} (hd : DirtyS f g h) : ∀ (ks : List Int) (bs : List Bool) (vs : List Value) (ss : List (List Int)), (∀ k ∈ ks, (g k).isSome = true) → Secs vs ss h → Secs (goV f ks bs vs) (goS g ks bs ss) h
  | [], _, _, _, _, hs => hs
  | _ :: _, [], _, _, _, hs => hs
  | k :: ks, b :: bs, vs, ss, hk, hs => by
    rw [goV, goS]
    refine goV_secs hd ks bs _ _ (fun j hj => hk j (by simp [hj])) ?_
    cases b with
    | false => simpa using hs
    | true =>
      simp only [if_true]
      obtain ⟨xs, hx⟩ := Option.isSome_iff_exists.1 (hk k (by simp))
      obtain ⟨h1, h2⟩ := hd k
      rw [hx] at h1
      obtain ⟨v, hv⟩ := Option.isSome_iff_exists.1 h1
      rw [hv, hx]
      exact hs.set (h2 v xs hv hx)

/-- the power gone -/
def Dk.gone (s : Dk) (ks : List Int) (bs : List Bool) : Dk := { s with sure := goS s.dirty ks bs s.sure, dirty := fun _ => none, down := true, fuse := 0, keep := [] }

theorem goS_wf {g : Int → Option (List Int)} (hg : ∀ i xs, g i = some xs → SecWf xs) : ∀ (ks : List Int) (bs : List Bool) (ss : List (List Int)), (∀ k ∈ ks, (g k).isSome = true) → (∀ xs ∈ ss, SecWf xs) → ∀ xs ∈ goS g ks bs ss, SecWf xs
  | [], _, _, _, hs => hs
  | _ :: _, [], _, _, hs => hs
  | k :: ks, b :: bs, ss, hk, hs => by
    rw [goS]
    refine goS_wf hg ks bs _ (fun j hj => hk j (by simp [hj])) ?_
    cases b with
    | false => simpa using hs
    | true =>
      simp only [if_true]
      obtain ⟨xs, hx⟩ := Option.isSome_iff_exists.1 (hk k (by simp))
      rw [hx]
      intro ys hy
      rcases List.mem_or_eq_of_mem_set hy with h | h
      · exact hs ys h
      · rw [h]; exact hg k xs hx

theorem Dk.gone_wf {s : Dk} {ks : List Int} {bs : List Bool} (h : s.Wf) (hk : KeysD s.dirty ks) : (s.gone ks bs).Wf where
  n1 := by show 1 ≤ (goS s.dirty ks bs s.sure).length; rw [goS_len]; exact h.n1
  n2 := by show (goS s.dirty ks bs s.sure).length ≤ 16384; rw [goS_len]; exact h.n2
  sec := goS_wf h.dsec ks bs s.sure (fun k hk' => (hk.mem k).1 hk') h.sec
  dsec := fun i xs hx => by cases hx
  dat := fun i xs hx => by cases hx
  f1 := Int.le_refl _
  f2 := by show (0 : Int) ≤ _; decide
  k1 := by show ([] : List Bool).length ≤ _; decide

def DX.gone (x : DX) (ks : List Int) (bs : List Bool) : DX := { x with kv := .slice none 0 0, vs := goV x.f ks bs x.vs, f := mnil }
theorem DX.gone_ok {x : DX} {s : Dk} {ks : List Int} {bs : List Bool} (hx : x.Ok s) (hk : KeysD s.dirty ks) : (x.gone ks bs).Ok (s.gone ks bs) where
  wf := Dk.gone_wf hx.wf hk
  len := by show (goV x.f ks bs x.vs).length = (goS s.dirty ks bs s.sure).length; rw [goV_len, goS_len]; exact hx.len
  dom := fun j => rfl
  one := fun j v hv => by cases hv
theorem DPers.gone {x : DX} {s : Dk} {ks : List Int} {bs : List Bool} {h : Hp} (hk : KeysD s.dirty ks) (hp : DPers x.vs x.f x.kv s h) : DPers (x.gone ks bs).vs (x.gone ks bs).f (x.gone ks bs).kv (s.gone ks bs) h :=
  ⟨goV_secs hp.2.1 ks bs _ _ (fun k hk' => (hk.mem k).1 hk') hp.1, fun j => ⟨rfl, fun v xs hv => by cases hv⟩, .inl ⟨rfl, rfl⟩⟩
/-- closing it -/
theorem DISK.gone_close {p : Nat} {s : Dk} {x : DX} {ks : List Int} {bs : List Bool} {F : List Res} (hx : x.Ok s) (hk : KeysD s.dirty ks) :
    Ent ((p, pts p (drow x.bS (goV x.f ks bs x.vs).length ((goV x.f ks bs x.vs).length + x.r.length) x.m true s.calls 0 (.slice none 0 0))) :: (x.bS, pts x.bS (.cells (goV x.f ks bs x.vs ++ x.r).toArray 67 (0, 0))) :: (x.m, MapI .i64 x.m mnil) :: (x.q, DPers x.vs x.f x.kv s) :: F) ((p, DISK p (s.gone ks bs)) :: F) :=
  Ent.trans (Ent.cons _ (Ent.cons _ (Ent.cons _ (Ent.head fun _ hp => DPers.gone hk hp)))) (DISK.close (x := x.gone ks bs) (DX.gone_ok hx hk))

/-- bools that can be read -/
def RdBools (r : HProp) (v : Value) (bs : List Bool) : Prop := ∃ a c, v = .slice a bs.length c ∧ (0 < bs.length → ∃ b o, a = some ⟨b, o, none⟩) ∧ Reads r a (bs.map Value.bool)

set_option maxHeartbeats 400000 in
theorem dGoes_ok (p k : Nat) (s : Dk) (r : HProp) (kv : Value) (bs : List Bool) (hr : RdBools r kv bs) (hb : bs.length ≤ 9223372036854775807) : Spec Try.prog 44 [.pointer (some ⟨p, 0, none⟩), kv] [p, k] [DISK p s, r]
    fun F v Rs' => ∃ ks, KeysD s.dirty ks ∧ v = .tuple #[] ∧ Rs' = (p, DISK p (s.gone ks bs)) :: (k, r) :: F := by
  obtain ⟨a, c, rfl, ha, hr⟩ := hr
  refine spec_of Try.func44 rfl Try.ntmps44 rfl ?_
  intro w0 F
  refine DISK.sc (p := p) (s := s) fun x hx => ?_
  unfold DISKl
  have hdom : ∀ i, (x.f i).isSome = true → 0 ≤ i ∧ i < 16384 := fun i hi => by
    rw [hx.dom i] at hi
    obtain ⟨xs, hxs⟩ := Option.isSome_iff_exists.1 hi
    have h1 := hx.wf.dat i xs hxs
    have h2 := hx.wf.n2
    omega
  repeat' (first | with_reducible (first | refine go1 ?_ | refine sct ?_ | refine scf ?_ | refine sgr ?_) | fail)
  refine sw_call (dWritten_ok p x.bS x.vs.length (x.vs.length + x.r.length) x.m s.down s.calls s.fuse x.kv x.f hdom) ?_
  rintro _ _ ⟨ks, hK, h⟩
  have hKD : KeysD s.dirty ks := ⟨hK.nodup, fun i => by rw [hK.mem i, hx.dom i], hK.le⟩
  have hkb := ints_bound hK.nodup fun j hj => hdom j ((hK.mem j).1 hj)
  rcases h with ⟨rfl, rfl, rfl⟩ | ⟨b, r2, rfl, rfl⟩
  · repeat' (first | with_reducible (first | refine go1 ?_ | refine sct ?_ | refine scf ?_ | refine sgr ?_) | fail)
    refine sc_loop (α := Unit) (fun _ => [(0, .pointer (some ⟨p, 0, none⟩)), (8, .int .i64 0), (9, .int .i64 0)])
      (fun _ => (p, pts p (drow x.bS x.vs.length (x.vs.length + x.r.length) x.m s.down s.calls s.fuse x.kv)) :: (x.m, MapI .i64 x.m x.f) :: (x.bS, pts x.bS (.cells (x.vs ++ x.r).toArray 67 (0, 0))) :: (x.q, DPers x.vs x.f x.kv s) :: (k, r) :: F)
      (fun _ => 0) () ?_ ?_ ?_
    · exact says_cons rfl (says_cons rfl (says_cons rfl says_nil))
    · repeat' (first | with_reducible exact Ent.refl _ | with_reducible refine Ent.take_eq ?_ ?_ | rfl | with_reducible refine Ent.trans (Ent.drop _ _) ?_)
    · rintro ⟨⟩ e
      simp only [List.cons_append, List.nil_append]
      repeat' (first | with_reducible refine sw_in (by omega) ?_ | with_reducible (first | refine go1 ?_ | refine sct ?_ | refine scf ?_ | refine sgr ?_) | with_reducible refine sw_store ?_ | with_reducible refine sw_clear ?_ | (with_reducible refine sc_cond (fun h => ?_) (fun h => ?_)) <;> (try (exfalso; first | contradiction | omega | exact h Iff.rfl)) | fail)
      refine sq_end0 Try.results44 ?_
      refine ⟨_, ⟨[], hKD, rfl, rfl⟩, Ent.trans ?_ (DISK.gone_close hx hKD)⟩
      simp only [goV]
      repeat' (first | with_reducible exact Ent.refl _ | with_reducible refine Ent.take_eq ?_ ?_ | rfl | with_reducible refine Ent.trans (Ent.drop _ _) ?_)
  · repeat' (first | with_reducible (first | refine go1 ?_ | refine sct ?_ | refine scf ?_ | refine sgr ?_) | fail)
    refine sc_loop (α := { y : Nat × List Value // y.1 ≤ ks.length ∧ goV x.f (ks.drop y.1) (bs.drop y.1) y.2 = goV x.f ks bs x.vs ∧ y.2.length = x.vs.length })
      (fun y => [(0, .pointer (some ⟨p, 0, none⟩)), (1, .slice a bs.length c), (7, .slice (some ⟨b, 0, none⟩) ks.length (ks.length + r2.length)), (8, .int .i64 ks.length), (9, .int .i64 y.1.1)])
      (fun y => (b, pts b (.cells (ks.map (Value.int .i64) ++ r2).toArray 3 (0, 0))) :: (p, pts p (drow x.bS x.vs.length (x.vs.length + x.r.length) x.m s.down s.calls s.fuse x.kv)) :: (x.m, MapI .i64 x.m x.f) :: (x.bS, pts x.bS (.cells (y.1.2 ++ x.r).toArray 67 (0, 0))) :: (x.q, DPers x.vs x.f x.kv s) :: (k, r) :: F)
      (fun y => ks.length - y.1.1) ⟨(0, x.vs), Nat.zero_le _, by simp, rfl⟩ ?_ ?_ ?_
    · exact says_cons rfl (says_cons rfl (says_cons rfl (says_cons rfl (says_cons rfl says_nil))))
    · repeat' (first | with_reducible exact Ent.refl _ | with_reducible refine Ent.take_eq ?_ ?_ | rfl | with_reducible refine Ent.trans (Ent.drop _ _) ?_)
    · rintro ⟨⟨i, vs⟩, hi, hgo, hvl⟩ e
      simp only at hi hgo hvl
      simp only [List.cons_append, List.nil_append]
      repeat' (first | with_reducible (first | refine go1 ?_ | refine sct ?_ | refine scf ?_ | refine sgr ?_) | (with_reducible refine sc_cond (fun h => ?_) (fun h => ?_)) <;> (try (exfalso; first | contradiction | omega | exact h Iff.rfl)) | fail)
      · have hlt : i < ks.length := by omega
        refine sw_idx i (by omega) ?_
        refine sw_loadAt (.int .i64 ks[i]) (by rw [List.getElem?_append_left (by simpa using hlt)]; simp [hlt]) ?_
        have hmem : (x.f ks[i]).isSome = true := (hK.mem _).1 (List.getElem_mem _)
        obtain ⟨fv, hfv⟩ := Option.isSome_iff_exists.1 hmem
        have hk0 := hdom _ hmem
        have hk1 : ks[i].toNat < x.vs.length := by
          rw [hx.dom] at hmem
          obtain ⟨xs, hxs⟩ := Option.isSome_iff_exists.1 hmem
          have h1 := hx.wf.dat _ xs hxs
          rw [hx.len]; omega
        haveI : One ((x.f ks[i]).getD (.slice none 0 0)) := ⟨by rw [hfv]; exact hx.one _ _ hfv⟩
        have hdk : ks.drop i = ks[i] :: ks.drop (i + 1) := List.drop_eq_getElem_cons hlt
        repeat' (first | with_reducible refine sw_in (by omega) ?_ | with_reducible (first | refine go1 ?_ | refine sct ?_ | refine scf ?_ | refine sgr ?_) | (with_reducible refine sc_cond (fun h => ?_) (fun h => ?_)) <;> (try (exfalso; first | contradiction | omega | exact h Iff.rfl)) | (with_reducible refine sw_guard_split (fun h => ?_) (fun h => ?_)) <;> (try (exfalso; first | contradiction | omega | exact h Iff.rfl)) | (with_reducible refine sw_pick (fun h => ?_) (fun h => ?_)) <;> (try (exfalso; first | contradiction | omega | exact h Iff.rfl)) | fail)
        · have hib : i < bs.length := by omega
          obtain ⟨ab, ao, rfl⟩ := ha (by omega)
          have hdb : bs.drop i = bs[i] :: bs.drop (i + 1) := List.drop_eq_getElem_cons hib
          refine sw_index (by omega) ?_
          have hbv : (bs.map Value.bool)[i]? = some (.bool bs[i]) := by rw [List.getElem?_map, List.getElem?_eq_getElem hib]; rfl
          have hoff : ao + (i : Int).toNat * 1 = ao + i := by omega
          repeat' (first | with_reducible (first | refine go1 ?_ | refine sct ?_ | refine scf ?_ | refine sgr ?_) | fail)
          refine sw_load_rd k i (.bool bs[i]) hr hbv hoff ?_
          repeat' (first | with_reducible refine sw_in (by omega) ?_ | with_reducible (first | refine go1 ?_ | refine sct ?_ | refine scf ?_ | refine sgr ?_) | (with_reducible refine sc_cond (fun h => ?_) (fun h => ?_)) <;> (try (exfalso; first | contradiction | omega | exact h Iff.rfl)) | (with_reducible refine sw_guard_split (fun h => ?_) (fun h => ?_)) <;> (try (exfalso; first | contradiction | omega | exact h Iff.rfl)) | (with_reducible refine sw_pick (fun h => ?_) (fun h => ?_)) <;> (try (exfalso; first | contradiction | omega | exact h Iff.rfl)) | fail)
          · refine sc_lin ([(p, pts p (drow x.bS x.vs.length (x.vs.length + x.r.length) x.m s.down s.calls s.fuse x.kv)), (x.m, MapI .i64 x.m x.f)]) (llp 0 (llp 1 (llp 2 (llp 3 (llp 4 (llp 5 (llp 6 (llp 7 (llp 8 (llp 9 (llp 10 (llp 11 (lle 12 ll0))))))))))))) (by kernel_rfl) rfl (by kernel_rfl) ?_
            all_goals (iterate 11 refine go1l ?_)
            all_goals refine sl_take (h := runop_idx ks[i].toNat (by omega)) ?_
            all_goals refine sl_eff ?_
            all_goals (repeat' (first | with_reducible (first | refine go1 ?_ | refine sct ?_ | refine scf ?_ | refine sgr ?_) | with_reducible refine sw_storeAt (by rw [List.length_append]; omega) ?_ | with_reducible refine sl_back ?_ | fail))
            all_goals refine sl_done ?_
            repeat' (first | with_reducible refine sw_in (by omega) ?_ | with_reducible (first | refine go1 ?_ | refine sct ?_ | refine scf ?_ | refine sgr ?_) | fail)
            have e3 : (vs ++ x.r).set ks[i].toNat ((x.f ks[i]).getD (.slice none 0 0)) = vs.set ks[i].toNat ((x.f ks[i]).getD (.slice none 0 0)) ++ x.r := List.set_append_left _ _ (by omega)
            rw [e3]
            refine sq_round ⟨(i + 1, vs.set ks[i].toNat ((x.f ks[i]).getD (.slice none 0 0))), hlt, ?_, ?_⟩ ?_ ?_ ?_
            · show goV x.f (ks.drop (i + 1)) (bs.drop (i + 1)) (vs.set ks[i].toNat ((x.f ks[i]).getD (.slice none 0 0))) = _
              rw [← hgo, hdk, hdb, goV, if_pos h]
            · rw [List.length_set]; exact hvl
            · show ks.length - (i + 1) < ks.length - i
              omega
            · exact says_cons rfl (says_cons rfl (says_cons rfl (says_cons rfl (says_cons rfl says_nil))))
            · repeat' (first | with_reducible exact Ent.refl _ | with_reducible refine Ent.take_eq ?_ ?_ | rfl | with_reducible refine Ent.trans (Ent.drop _ _) ?_)
          · refine sq_round ⟨(i + 1, vs), hlt, ?_, ?_⟩ ?_ ?_ ?_
            · show goV x.f (ks.drop (i + 1)) (bs.drop (i + 1)) (vs) = _
              rw [← hgo, hdk, hdb, goV, if_neg h]
            · exact hvl
            · show ks.length - (i + 1) < ks.length - i
              omega
            · exact says_cons rfl (says_cons rfl (says_cons rfl (says_cons rfl (says_cons rfl says_nil))))
            · repeat' (first | with_reducible exact Ent.refl _ | with_reducible refine Ent.take_eq ?_ ?_ | rfl | with_reducible refine Ent.trans (Ent.drop _ _) ?_)
        · refine sq_round ⟨(i + 1, vs), hlt, ?_, ?_⟩ ?_ ?_ ?_
          · show goV x.f (ks.drop (i + 1)) (bs.drop (i + 1)) (vs) = _
            rw [← hgo, List.drop_eq_nil_of_le (show bs.length ≤ i + 1 by omega), List.drop_eq_nil_of_le (show bs.length ≤ i by omega), goV_nil, goV_nil]
          · exact hvl
          · show ks.length - (i + 1) < ks.length - i
            omega
          · exact says_cons rfl (says_cons rfl (says_cons rfl (says_cons rfl (says_cons rfl says_nil))))
          · repeat' (first | with_reducible exact Ent.refl _ | with_reducible refine Ent.take_eq ?_ ?_ | rfl | with_reducible refine Ent.trans (Ent.drop _ _) ?_)
      · have hin : i = ks.length := by omega
        subst hin
        rw [List.drop_length] at hgo
        have hvs : vs = goV x.f ks bs x.vs := hgo
        repeat' (first | with_reducible refine sw_in (by omega) ?_ | with_reducible (first | refine go1 ?_ | refine sct ?_ | refine scf ?_ | refine sgr ?_) | with_reducible refine sw_store ?_ | with_reducible refine sw_clear ?_ | fail)
        refine sq_end0 Try.results44 ?_
        refine ⟨_, ⟨ks, hKD, rfl, rfl⟩, Ent.trans ?_ (DISK.gone_close hx hKD)⟩
        rw [goV_len, hvs]
        repeat' (first | with_reducible exact Ent.refl _ | with_reducible refine Ent.take_eq ?_ ?_ | rfl | with_reducible refine Ent.trans (Ent.drop _ _) ?_)
end Go.Gsl

namespace Go.Gsl
set_option linter.unusedVariables false
open Go.Proofs

theorem dCrash_bad (p k : Nat) (s : Dk) (r : HProp) (kv : Value) (hb : s.looks 0 ≠ 0) : Spec Try.prog 27 [.pointer (some ⟨p, 0, none⟩), kv] [p, k] [DISK p s, r]
    fun F v Rs' => v = .int .i64 (s.looks 0) ∧ Rs' = (p, DISK p s) :: (k, r) :: F := by
  refine spec_of Try.func27 rfl Try.ntmps27 rfl ?_
  intro w0 F
  repeat' (first | with_reducible (first | refine go1 ?_ | refine sct ?_ | refine scf ?_ | refine sgr ?_) | ((with_reducible refine sw_call (dLooks_ok p s 0) ?_); rintro _ _ ⟨rfl, rfl⟩) | (with_reducible refine sc_cond (fun h => ?_) (fun h => ?_)) <;> (try (exfalso; first | contradiction | omega | exact h Iff.rfl)) | (with_reducible refine sw_guard_split (fun h => ?_) (fun h => ?_)) <;> (try (exfalso; first | contradiction | omega | exact h Iff.rfl)) | (with_reducible refine sw_pick (fun h => ?_) (fun h => ?_)) <;> (try (exfalso; first | contradiction | omega | exact h Iff.rfl)) | fail)
  refine sq_ret1 Try.results27 ?_
  exact ⟨_, ⟨rfl, rfl⟩, Ent.refl _⟩

theorem dCrash_ok (p k : Nat) (s : Dk) (r : HProp) (kv : Value) (bs : List Bool) (hr : RdBools r kv bs) (hl : bs.length ≤ 9223372036854775807) (hb : s.looks 0 = 0) : Spec Try.prog 27 [.pointer (some ⟨p, 0, none⟩), kv] [p, k] [DISK p s, r]
    fun F v Rs' => ∃ ks, KeysD s.dirty ks ∧ v = .int .i64 0 ∧ Rs' = (p, DISK p (s.gone ks bs)) :: (k, r) :: F := by
  refine spec_of Try.func27 rfl Try.ntmps27 rfl ?_
  intro w0 F
  repeat' (first | with_reducible (first | refine go1 ?_ | refine sct ?_ | refine scf ?_ | refine sgr ?_) | ((with_reducible refine sw_call (dLooks_ok p s 0) ?_); rintro _ _ ⟨rfl, rfl⟩) | ((with_reducible refine sw_call (dGoes_ok p k s r kv bs hr hl) ?_); rintro _ _ ⟨ks, hk, rfl, rfl⟩) | (with_reducible refine sc_cond (fun h => ?_) (fun h => ?_)) <;> (try (exfalso; first | contradiction | omega | exact h Iff.rfl)) | (with_reducible refine sw_guard_split (fun h => ?_) (fun h => ?_)) <;> (try (exfalso; first | contradiction | omega | exact h Iff.rfl)) | (with_reducible refine sw_pick (fun h => ?_) (fun h => ?_)) <;> (try (exfalso; first | contradiction | omega | exact h Iff.rfl)) | fail)
  refine sq_ret1 Try.results27 ?_
  exact ⟨_, ⟨ks, hk, rfl, rfl⟩, Ent.refl _⟩

/-- a fuse set -/
def Dk.fused (s : Dk) (n : Int) (bs : List Bool) : Dk := { s with fuse := n, keep := bs }
theorem Dk.fused_wf {s : Dk} (h : s.Wf) {n : Int} {bs : List Bool} (h0 : 0 ≤ n) (h1 : n ≤ 9223372036854775807) (h2 : bs.length ≤ 140737488355328) : (s.fused n bs).Wf :=
  ⟨h.n1, h.n2, h.sec, h.dsec, h.dat, h0, h1, by show bs.length ≤ _; omega⟩

theorem dSetFuse_neg (p k : Nat) (s : Dk) (r : HProp) (kv : Value) (n : Int) (hn : n < 0) : Spec Try.prog 25 [.pointer (some ⟨p, 0, none⟩), .int .i64 n, kv] [p, k] [DISK p s, r]
    fun F v Rs' => v = .int .i64 1 ∧ Rs' = (p, DISK p s) :: (k, r) :: F := by
  refine spec_of Try.func25 rfl Try.ntmps25 rfl ?_
  intro w0 F
  repeat' (first | with_reducible (first | refine go1 ?_ | refine sct ?_ | refine scf ?_ | refine sgr ?_) | ((with_reducible refine sw_call (dNone_ok p s) ?_); rintro _ _ ⟨rfl, rfl⟩) | (with_reducible refine sc_cond (fun h => ?_) (fun h => ?_)) <;> (try (exfalso; first | contradiction | omega | exact h Iff.rfl)) | (with_reducible refine sw_guard_split (fun h => ?_) (fun h => ?_)) <;> (try (exfalso; first | contradiction | omega | exact h Iff.rfl)) | (with_reducible refine sw_pick (fun h => ?_) (fun h => ?_)) <;> (try (exfalso; first | contradiction | omega | exact h Iff.rfl)) | fail)
  refine sq_ret1 Try.results25 ?_
  exact ⟨_, ⟨rfl, rfl⟩, Ent.refl _⟩

theorem dSetFuse_ok (p k : Nat) (s : Dk) (r : HProp) (kv : Value) (bs : List Bool) (n : Int) (hn : 0 ≤ n) (hn2 : n ≤ 9223372036854775807) (hr : RdBools r kv bs) (hl : bs.length ≤ 140737488355328) : Spec Try.prog 25 [.pointer (some ⟨p, 0, none⟩), .int .i64 n, kv] [p, k] [DISK p s, r]
    fun F v Rs' => v = .int .i64 0 ∧ Rs' = (p, DISK p (s.fused n bs)) :: (k, r) :: F := by
  obtain ⟨a, c, rfl, ha, hr⟩ := hr
  refine spec_of Try.func25 rfl Try.ntmps25 rfl ?_
  intro w0 F
  repeat' (first | with_reducible (first | refine go1 ?_ | refine sct ?_ | refine scf ?_ | refine sgr ?_) | ((with_reducible refine sw_call (dNone_ok p s) ?_); rintro _ _ ⟨rfl, rfl⟩) | ((with_reducible refine sw_call (clBool_ok k r a bs.length c (bs.map Value.bool) hr (one_bools _) (by simp) hl) ?_); rintro _ _ h) | (with_reducible refine sc_cond (fun h => ?_) (fun h => ?_)) <;> (try (exfalso; first | contradiction | omega | exact h Iff.rfl)) | (with_reducible refine sw_guard_split (fun h => ?_) (fun h => ?_)) <;> (try (exfalso; first | contradiction | omega | exact h Iff.rfl)) | (with_reducible refine sw_pick (fun h => ?_) (fun h => ?_)) <;> (try (exfalso; first | contradiction | omega | exact h Iff.rfl)) | fail)
  rcases h with ⟨rfl, rfl, rfl⟩ | ⟨hne, b, t, rfl, rfl⟩
  · have hb0 : bs = [] := by
      cases bs with
      | nil => rfl
      | cons u us => obtain ⟨b, o, h⟩ := ha (by simp); cases h
    refine DISK.sw (p := p) (s := s) fun x hx => ?_
    unfold DISKl
    repeat' (first | with_reducible (first | refine go1 ?_ | refine sct ?_ | refine scf ?_ | refine sgr ?_) | with_reducible refine sw_store ?_ | fail)
    refine sq_ret1 Try.results25 ?_
    refine ⟨_, ⟨rfl, rfl⟩, Ent.trans (B := DISKl p (s.fused n bs) { x with kv := .slice none 0 0 } ((k, r) :: F)) ?_ (DISK.close ⟨Dk.fused_wf hx.wf hn hn2 hl, hx.len, hx.dom, hx.one⟩)⟩
    unfold DISKl
    refine Ent.take_eq rfl (Ent.take_eq rfl (Ent.take_eq rfl ?_))
    refine Ent.take (fun h hp => ⟨hp.1, hp.2.1, .inl ⟨rfl, hb0⟩⟩) ?_
    repeat' (first | with_reducible exact Ent.refl _ | with_reducible refine Ent.take_eq ?_ ?_ | rfl | with_reducible refine Ent.trans (Ent.drop _ _) ?_)
  · refine sw_freeze (b := b) ?_
    refine DISK.sw (p := p) (s := s) fun x hx => ?_
    unfold DISKl
    repeat' (first | with_reducible (first | refine go1 ?_ | refine sct ?_ | refine scf ?_ | refine sgr ?_) | with_reducible refine sw_store ?_ | fail)
    refine sq_ret1 Try.results25 ?_
    refine ⟨_, ⟨rfl, rfl⟩, Ent.trans (B := DISKl p (s.fused n bs) { x with kv := .slice (some ⟨b, 0, none⟩) bs.length (bs.length + t.length) } ((k, r) :: F)) ?_ (DISK.close ⟨Dk.fused_wf hx.wf hn hn2 hl, hx.len, hx.dom, hx.one⟩)⟩
    unfold DISKl
    refine Ent.take_eq rfl (Ent.take_eq rfl (Ent.take_eq rfl ?_))
    refine Ent.trans (B := (x.q, DPers x.vs x.f x.kv s) :: (b, imm b (.cells (bs.map Value.bool ++ t).toArray 4 (0, 0))) :: (k, r) :: F) ?_ (Ent.join fun a1 b1 hd hp hi => ⟨hp.1.left, hp.2.1.left, .inr ⟨b, t, rfl, imm_right hd hi⟩⟩)
    repeat' (first | with_reducible exact Ent.refl _ | with_reducible refine Ent.take_eq ?_ ?_ | rfl | with_reducible refine Ent.trans (Ent.drop _ _) ?_)
end Go.Gsl

namespace Go.Gsl
set_option linter.unusedVariables false
open Go.Proofs

theorem dWrite_bad (p k : Nat) (s : Dk) (r : HProp) (v : Value) (a : Int) (hb : s.looks a ≠ 0) : Spec Try.prog 36 [.pointer (some ⟨p, 0, none⟩), .int .i64 a, v] [p, k] [DISK p s, r]
    fun F v Rs' => v = .int .i64 (s.looks a) ∧ Rs' = (p, DISK p s) :: (k, r) :: F := by
  refine spec_of Try.func36 rfl Try.ntmps36 rfl ?_
  intro w0 F
  repeat' (first | with_reducible (first | refine go1 ?_ | refine sct ?_ | refine scf ?_ | refine sgr ?_) | ((with_reducible refine sw_call (dLooks_ok p s a) ?_); rintro _ _ ⟨rfl, rfl⟩) | (with_reducible refine sc_cond (fun h => ?_) (fun h => ?_)) <;> (try (exfalso; first | contradiction | omega | exact h Iff.rfl)) | (with_reducible refine sw_guard_split (fun h => ?_) (fun h => ?_)) <;> (try (exfalso; first | contradiction | omega | exact h Iff.rfl)) | (with_reducible refine sw_pick (fun h => ?_) (fun h => ?_)) <;> (try (exfalso; first | contradiction | omega | exact h Iff.rfl)) | fail)
  refine sq_ret1 Try.results36 ?_
  exact ⟨_, ⟨rfl, rfl⟩, Ent.refl _⟩
theorem dWrite_len (p k : Nat) (s : Dk) (r : HProp) (ad : Option Addr) (m c : Nat) (a : Int) (hb : s.looks a = 0) (hm : m ≠ 512) : Spec Try.prog 36 [.pointer (some ⟨p, 0, none⟩), .int .i64 a, .slice ad m c] [p, k] [DISK p s, r]
    fun F v Rs' => v = .int .i64 1 ∧ Rs' = (p, DISK p s) :: (k, r) :: F := by
  refine spec_of Try.func36 rfl Try.ntmps36 rfl ?_
  intro w0 F
  repeat' (first | with_reducible (first | refine go1 ?_ | refine sct ?_ | refine scf ?_ | refine sgr ?_) | ((with_reducible refine sw_call (dLooks_ok p s a) ?_); rintro _ _ ⟨rfl, rfl⟩) | (with_reducible refine sc_cond (fun h => ?_) (fun h => ?_)) <;> (try (exfalso; first | contradiction | omega | exact h Iff.rfl)) | (with_reducible refine sw_guard_split (fun h => ?_) (fun h => ?_)) <;> (try (exfalso; first | contradiction | omega | exact h Iff.rfl)) | (with_reducible refine sw_pick (fun h => ?_) (fun h => ?_)) <;> (try (exfalso; first | contradiction | omega | exact h Iff.rfl)) | fail)
  refine sq_ret1 Try.results36 ?_
  exact ⟨_, ⟨rfl, rfl⟩, Ent.refl _⟩

/-- a sector written -/
def Dk.wrote (s : Dk) (a : Int) (xs : List Int) : Dk := { s.met with dirty := fun j => if j = a then some xs else s.dirty j }
theorem Dk.wrote_wf {s : Dk} (h : s.met.Wf) {a : Int} {xs : List Int} (h0 : 0 ≤ a) (h1 : a < s.sure.length) (hx : SecWf xs) : (s.wrote a xs).Wf where
  n1 := h.n1
  n2 := h.n2
  sec := h.sec
  dsec := fun i ys hy => by
    simp only [Dk.wrote] at hy
    split at hy
    · cases hy; exact hx
    · exact h.dsec i ys hy
  dat := fun i ys hy => by
    simp only [Dk.wrote] at hy
    split at hy
    · rename_i e; subst e; exact ⟨h0, h1⟩
    · exact h.dat i ys hy
  f1 := h.f1
  f2 := h.f2
  k1 := h.k1

def DX.wrote (x : DX) (a : Int) (v : Value) : DX := { x with f := mput x.f a v }
theorem DX.Ok.wrote_ok {s : Dk} {x : DX} {a : Int} {v : Value} {xs : List Int} (hx : x.Ok s.met) (hw : (s.wrote a xs).Wf) (hv : v.oneCell' = true) : (x.wrote a v).Ok (s.wrote a xs) where
  wf := hw
  len := hx.len
  dom := fun j => by
    have := hx.dom j
    simp only [DX.wrote, mput, Dk.wrote]
    by_cases h : j = a
    · simp [h]
    · simp only [h, if_false]; exact this
  one := fun j u hu => by
    simp only [DX.wrote, mput] at hu
    split at hu
    · cases hu; exact hv
    · exact hx.one j u hu
theorem DPers.wrote {x : DX} {s : Dk} {a : Int} {v : Value} {xs : List Int} {h1 h2 : Hp} (hd : hdisj h1 h2) (hp : DPers x.vs x.f x.kv s.met h1) (hs : Sec v xs h2) : DPers (x.wrote a v).vs (x.wrote a v).f (x.wrote a v).kv (s.wrote a xs) (hjoin h1 h2) := by
  refine ⟨hp.1.left, fun j => ?_, hp.2.2.left⟩
  obtain ⟨e1, e2⟩ := hp.2.1.left (y := h2) j
  simp only [DX.wrote, mput, Dk.wrote]
  by_cases hj : j = a
  · simp only [hj, if_true]
    exact ⟨rfl, fun u ys hu hy => by cases hu; cases hy; exact hs.right hd⟩
  · simp only [hj, if_false]
    exact ⟨e1, e2⟩

theorem BoolsI.fp {v : Value} {bs : List Bool} {h : Hp} (hs : BoolsI v bs h) : BoolsI v bs (fpart h) := by
  rcases hs with h | ⟨b, r, hv, hi⟩
  · exact .inl h
  · exact .inr ⟨b, r, hv, imm_fpart hi⟩

/-- bools that lie for ever can be read -/
theorem sw_bools {P : Program} {ops : List Oper} {Q : Cont} {n : Nat} {w0 : World} {l : List Oper} {e : Env} {Rs F : List Res} (k : Nat) {v : Value} {bs : List Bool} [t : Take Rs k (BoolsI v bs) F] (q : ∀ r, RdBools r v bs → SW P ops Q n w0 l e ((k, r) :: F)) : SW P ops Q n w0 l e Rs := by
  intro w hw
  obtain ⟨y, hy, h⟩ := (hw.ent t.ent).opn (α := Option (Nat × List Value)) (φ := fun y => match y with
      | none => v = .slice none 0 0 ∧ bs = []
      | some (b, r) => v = .slice (some ⟨b, 0, none⟩) bs.length (bs.length + r.length))
    (p := fun y => match y with
      | none => fun _ => True
      | some (b, r) => imm b (.cells (bs.map Value.bool ++ r).toArray 4 (0, 0)))
    (by rintro x (⟨h1, h2⟩ | ⟨b, r, h1, h2⟩)
        · exact ⟨none, ⟨h1, h2⟩, trivial⟩
        · exact ⟨some (b, r), h1, h2⟩)
  cases y with
  | none =>
    obtain ⟨rfl, rfl⟩ := hy
    exact q _ ⟨none, 0, rfl, fun h => by simp at h, reads_nil _ _⟩ w h
  | some y =>
    obtain ⟨b, r⟩ := y
    simp only at hy
    subst hy
    refine q _ ⟨some ⟨b, 0, none⟩, _, rfl, fun _ => ⟨b, 0, rfl⟩, ?_⟩ w h
    exact reads_imm fun j u hj => by rw [Nat.zero_add, List.getElem?_append_left (List.getElem?_eq_some_iff.1 hj).1]; exact hj

theorem dWrite_ok (p k : Nat) (s : Dk) (r : HProp) (ad : Option Addr) (c : Nat) (a : Int) (xs : List Int) (hb : s.looks a = 0) (hx : SecWf xs) (hne : ad ≠ none) (hr : Reads r ad (xs.map (Value.int .u8))) : Spec Try.prog 36 [.pointer (some ⟨p, 0, none⟩), .int .i64 a, .slice ad 512 c] [p, k] [DISK p s, r]
    fun F v Rs' => (s.fuse ≠ 1 ∧ v = .int .i64 0 ∧ Rs' = (p, DISK p (s.wrote a xs)) :: (k, r) :: F) ∨
      (s.fuse = 1 ∧ v = .int .i64 6 ∧ ∃ ks, KeysD (s.wrote a xs).dirty ks ∧ Rs' = (p, DISK p ((s.wrote a xs).gone ks s.keep)) :: (k, r) :: F) := by
  refine spec_of Try.func36 rfl Try.ntmps36 rfl ?_
  intro w0 F
  repeat' (first | with_reducible (first | refine go1 ?_ | refine sct ?_ | refine scf ?_ | refine sgr ?_) | ((with_reducible refine sw_call (dLooks_ok p s a) ?_); rintro _ _ ⟨rfl, rfl⟩) | ((with_reducible refine sw_call (dMeets_ok p s) ?_); rintro _ _ ⟨rfl, rfl⟩) | (with_reducible refine sc_cond (fun h => ?_) (fun h => ?_)) <;> (try (exfalso; first | contradiction | omega | exact h Iff.rfl)) | (with_reducible refine sw_guard_split (fun h => ?_) (fun h => ?_)) <;> (try (exfalso; first | contradiction | omega | exact h Iff.rfl)) | (with_reducible refine sw_pick (fun h => ?_) (fun h => ?_)) <;> (try (exfalso; first | contradiction | omega | exact h Iff.rfl)) | fail)
  have hin : 0 ≤ a ∧ a < s.sure.length := by
    unfold Dk.looks at hb
    split at hb
    · cases hb
    · split at hb
      · cases hb
      · omega
  refine DISK.sc (p := p) (s := s.met) fun x hX => ?_
  unfold DISKl
  refine sc_lin ([(p, pts p (drow x.bS x.vs.length (x.vs.length + x.r.length) x.m s.met.down s.met.calls s.met.fuse x.kv))]) (llp 0 (llp 1 (llp 2 (llp 3 (llp 4 (llp 5 (lle 6 (lle 7 ll0)))))))) (by kernel_rfl) rfl (by kernel_rfl) ?_
  all_goals (iterate 6 refine go1l ?_)
  all_goals refine sl_eff ?_
  all_goals (repeat' (first | with_reducible (first | refine go1 ?_ | refine sct ?_ | refine scf ?_ | refine sgr ?_) | ((with_reducible refine sw_call (clB_ok k r ad 512 c (xs.map (Value.int .u8)) hr (one_ints _ _) (by rw [List.length_map, hx.len]) (by omega)) ?_); rintro _ _ (⟨hN, _⟩ | ⟨_, b, t, rfl, rfl⟩); · exact absurd hN hne) | with_reducible refine sw_mapUpdate ?_ | with_reducible refine sl_back ?_ | fail))
  all_goals refine sl_eff ?_
  all_goals (repeat' (first | with_reducible (first | refine go1 ?_ | refine sct ?_ | refine scf ?_ | refine sgr ?_) | ((with_reducible refine sw_call (clB_ok k r ad 512 c (xs.map (Value.int .u8)) hr (one_ints _ _) (by rw [List.length_map, hx.len]) (by omega)) ?_); rintro _ _ (⟨hN, _⟩ | ⟨_, b, t, rfl, rfl⟩); · exact absurd hN hne) | with_reducible refine sw_mapUpdate ?_ | with_reducible refine sl_back ?_ | fail))
  all_goals refine sl_done ?_
  refine sq_freeze (b := b) ?_
  refine sq_ent (Rs'' := (p, DISK p (s.wrote a xs)) :: (k, r) :: F) ?_ ?_
  · refine Ent.trans (B := DISKl p (s.wrote a xs) (x.wrote a (.slice (some ⟨b, 0, none⟩) 512 (512 + t.length))) ((k, r) :: F)) ?_ (DISK.close (hX.wrote_ok (Dk.wrote_wf hX.wf hin.1 hin.2 hx) rfl))
    unfold DISKl DX.wrote Dk.wrote
    simp only
    refine Ent.take_eq rfl (Ent.take_eq rfl (Ent.take_eq rfl ?_))
    refine Ent.trans (B := (x.q, DPers x.vs x.f x.kv s.met) :: (b, imm b (.cells (xs.map (Value.int .u8) ++ t).toArray 5 (0, 0))) :: (k, r) :: F) ?_ (Ent.join fun a1 b1 hd hp hi => hp.wrote hd ⟨b, t, by rw [hx.len], hi⟩)
    repeat' (first | with_reducible exact Ent.refl _ | with_reducible refine Ent.take_eq ?_ ?_ | rfl | with_reducible refine Ent.trans (Ent.drop _ _) ?_)
  repeat' (first | with_reducible (first | refine go1 ?_ | refine sct ?_ | refine scf ?_ | refine sgr ?_) | (with_reducible refine sc_cond (fun h => ?_) (fun h => ?_)) <;> (try (exfalso; first | contradiction | omega | exact h Iff.rfl)) | fail)
  · refine DISK.sw (p := p) (s := s.wrote a xs) fun y hy => ?_
    unfold DISKl
    refine sw_ent (Ent.dup_take (k := y.q) (k' := y.q + 1) (r' := BoolsI y.kv s.keep) fun _ hp => hp.2.2.fp) ?_
    repeat' (first | with_reducible (first | refine go1 ?_ | refine sct ?_ | refine scf ?_ | refine sgr ?_) | fail)
    refine sw_bools (y.q + 1) fun rr hrr => ?_
    refine sw_ent (Rs'' := (p, DISK p (s.wrote a xs)) :: (y.q + 1, rr) :: (k, r) :: F) ?_ ?_
    · refine Ent.trans (B := DISKl p (s.wrote a xs) y ((y.q + 1, rr) :: (k, r) :: F)) ?_ (DISK.close hy)
      unfold DISKl
      repeat' (first | with_reducible exact Ent.refl _ | with_reducible refine Ent.take_eq ?_ ?_ | rfl | with_reducible refine Ent.trans (Ent.drop _ _) ?_)
    have hkl : s.keep.length ≤ 9223372036854775807 := hy.wf.k1
    repeat' (first | with_reducible (first | refine go1 ?_ | refine sct ?_ | refine scf ?_ | refine sgr ?_) | ((with_reducible refine sw_call (dGoes_ok p (y.q + 1) (s.wrote a xs) rr y.kv s.keep hrr hkl) ?_); rintro _ _ ⟨ks, hks, rfl, rfl⟩) | fail)
    refine sq_ret1 Try.results36 ?_
    refine ⟨_, .inr ⟨by assumption, rfl, ks, hks, rfl⟩, ?_⟩
    repeat' (first | with_reducible exact Ent.refl _ | with_reducible refine Ent.take_eq ?_ ?_ | rfl | with_reducible refine Ent.trans (Ent.drop _ _) ?_)
  · refine sq_ret1 Try.results36 ?_
    refine ⟨_, .inl ⟨by assumption, rfl, rfl⟩, ?_⟩
    repeat' (first | with_reducible exact Ent.refl _ | with_reducible refine Ent.take_eq ?_ ?_ | rfl | with_reducible refine Ent.trans (Ent.drop _ _) ?_)
end Go.Gsl

namespace Go.Gsl
set_option linter.unusedVariables false
open Go.Proofs

def mergeV (f : Int → Option Value) (vs : List Value) : List Value := vs.mapIdx fun i v => (f i).getD v
def mergeS (g : Int → Option (List Int)) (ss : List (List Int)) : List (List Int) := ss.mapIdx fun i x => (g i).getD x

/-- all made sure -/
def Dk.barred (s : Dk) : Dk := { s.met with sure := mergeS s.dirty s.sure, dirty := fun _ => none }

theorem Dk.barred_wf {s : Dk} (h : s.met.Wf) : s.barred.Wf where
  n1 := by show 1 ≤ (mergeS s.dirty s.sure).length; unfold mergeS; rw [List.length_mapIdx]; exact h.n1
  n2 := by show (mergeS s.dirty s.sure).length ≤ 16384; unfold mergeS; rw [List.length_mapIdx]; exact h.n2
  sec := fun xs hx => by
    have hx : xs ∈ mergeS s.dirty s.sure := hx
    unfold mergeS at hx
    obtain ⟨i, hi, rfl⟩ := List.mem_mapIdx.1 hx
    cases hd : s.dirty i with
    | none => exact h.sec _ (List.getElem_mem _)
    | some ys => exact h.dsec i ys hd
  dsec := fun i xs hx => by cases hx
  dat := fun i xs hx => by cases hx
  f1 := h.f1
  f2 := h.f2
  k1 := h.k1

theorem DPers.barred {x : DX} {s : Dk} {h : Hp} (hp : DPers x.vs x.f x.kv s.met h) : DPers (mergeV x.f x.vs) mnil x.kv s.barred h := by
  refine ⟨fun i v xs hv hx => ?_, fun j => ⟨rfl, fun v xs hv => by cases hv⟩, hp.2.2⟩
  have hx : (mergeS s.dirty s.sure)[i]? = some xs := hx
  unfold mergeV at hv
  unfold mergeS at hx
  rw [List.getElem?_mapIdx] at hv hx
  obtain ⟨u, hu, rfl⟩ := Option.map_eq_some_iff.1 hv
  obtain ⟨y, hy, rfl⟩ := Option.map_eq_some_iff.1 hx
  obtain ⟨h1, h2⟩ := hp.2.1 i
  cases hf : x.f i with
  | none =>
    rw [hf] at h1
    have hd : s.dirty i = none := by cases hq : s.dirty i with
      | none => rfl
      | some z => have : (s.met.dirty i).isSome = true := by show (s.dirty i).isSome = true; rw [hq]; rfl
                  rw [← h1] at this; cases this
    rw [hd]
    exact hp.1 i u y hu hy
  | some v =>
    rw [hf] at h1
    obtain ⟨z, hz⟩ := Option.isSome_iff_exists.1 h1.symm
    have hz' : s.dirty i = some z := hz
    rw [hz']
    exact h2 v z hf hz

/-- the loop of Barrier, in plain terms -/
theorem merge_step {f : Int → Option Value} {vs ws : List Value} {D : List (Int × Value)} {i : Int} {v : Value} (hi : f i = some v) (h0 : 0 ≤ i) (h1 : i.toNat < ws.length)
    (hw : ∀ j : Nat, ws[j]? = if (j : Int) ∈ D.map (·.1) then f j else vs[j]?) : ∀ j : Nat, (ws.set i.toNat v)[j]? = if (j : Int) ∈ (D ++ [(i, v)]).map (·.1) then f j else vs[j]? := by
  intro j
  rw [List.getElem?_set]
  by_cases hj : i.toNat = j
  · rw [if_pos hj, if_pos h1]
    have e : (j : Int) = i := by omega
    rw [e, if_pos (by simp), hi]
  · rw [if_neg hj, hw j]
    have e : (j : Int) ≠ i := by omega
    have e2 : ((j : Int) ∈ (D ++ [(i, v)]).map (·.1)) ↔ ((j : Int) ∈ D.map (·.1)) := by simp [e]
    simp only [e2]
theorem merge_done {f : Int → Option Value} {vs ws : List Value} {D : List (Int × Value)} (hall : ∀ i v, f i = some v → (i, v) ∈ D) (hD : ∀ i v, (i, v) ∈ D → f i = some v)
    (hdom : ∀ i, (f i).isSome = true → 0 ≤ i ∧ i.toNat < vs.length) (hw : ∀ j : Nat, ws[j]? = if (j : Int) ∈ D.map (·.1) then f j else vs[j]?) : ws = mergeV f vs := by
  refine List.ext_getElem? fun j => ?_
  unfold mergeV
  rw [hw j, List.getElem?_mapIdx]
  cases hf : f (j : Int) with
  | none =>
    rw [if_neg]
    · cases vs[j]? with
      | none => rfl
      | some u => simp only [Option.map_some, Option.getD_none]
    · intro hm
      obtain ⟨⟨a, u⟩, ha, e⟩ := List.mem_map.1 hm
      simp only at e
      subst e
      rw [hD _ u ha] at hf; cases hf
  | some v =>
    have hlt := (hdom j (by rw [hf]; rfl)).2
    rw [if_pos (List.mem_map.2 ⟨((j : Int), v), hall _ v hf, rfl⟩)]
    rw [Int.toNat_natCast] at hlt
    rw [List.getElem?_eq_getElem hlt, Option.map_some]; simp

theorem DX.barred_ok {x : DX} {s : Dk} (hx : x.Ok s.met) : ({ x with vs := mergeV x.f x.vs, f := mnil } : DX).Ok s.barred where
  wf := Dk.barred_wf hx.wf
  len := by show (mergeV x.f x.vs).length = (mergeS s.dirty s.sure).length; unfold mergeV mergeS; rw [List.length_mapIdx, List.length_mapIdx]; exact hx.len
  dom := fun j => rfl
  one := fun j v hv => by cases hv

theorem dBarrier_bad (p : Nat) (s : Dk) (hb : s.looks 0 ≠ 0) : Spec Try.prog 38 [.pointer (some ⟨p, 0, none⟩)] [p] [DISK p s]
    fun F v Rs' => v = .int .i64 (s.looks 0) ∧ Rs' = (p, DISK p s) :: F := by
  refine spec_of Try.func38 rfl Try.ntmps38 rfl ?_
  intro w0 F
  repeat' (first | with_reducible (first | refine go1 ?_ | refine sct ?_ | refine scf ?_ | refine sgr ?_) | ((with_reducible refine sw_call (dLooks_ok p s 0) ?_); rintro _ _ ⟨rfl, rfl⟩) | (with_reducible refine sc_cond (fun h => ?_) (fun h => ?_)) <;> (try (exfalso; first | contradiction | omega | exact h Iff.rfl)) | (with_reducible refine sw_guard_split (fun h => ?_) (fun h => ?_)) <;> (try (exfalso; first | contradiction | omega | exact h Iff.rfl)) | (with_reducible refine sw_pick (fun h => ?_) (fun h => ?_)) <;> (try (exfalso; first | contradiction | omega | exact h Iff.rfl)) | fail)
  refine sq_ret1 Try.results38 ?_
  exact ⟨_, ⟨rfl, rfl⟩, Ent.refl _⟩

theorem dBarrier_ok (p : Nat) (s : Dk) (hb : s.looks 0 = 0) : Spec Try.prog 38 [.pointer (some ⟨p, 0, none⟩)] [p] [DISK p s]
    fun F v Rs' => (s.fuse ≠ 1 ∧ v = .int .i64 0 ∧ Rs' = (p, DISK p s.barred) :: F) ∨
      (s.fuse = 1 ∧ v = .int .i64 6 ∧ ∃ ks, KeysD s.dirty ks ∧ Rs' = (p, DISK p (s.met.gone ks s.keep)) :: F) := by
  refine spec_of Try.func38 rfl Try.ntmps38 rfl ?_
  intro w0 F
  repeat' (first | with_reducible (first | refine go1 ?_ | refine sct ?_ | refine scf ?_ | refine sgr ?_) | ((with_reducible refine sw_call (dLooks_ok p s 0) ?_); rintro _ _ ⟨rfl, rfl⟩) | ((with_reducible refine sw_call (dMeets_ok p s) ?_); rintro _ _ ⟨rfl, rfl⟩) | (with_reducible refine sc_cond (fun h => ?_) (fun h => ?_)) <;> (try (exfalso; first | contradiction | omega | exact h Iff.rfl)) | (with_reducible refine sw_guard_split (fun h => ?_) (fun h => ?_)) <;> (try (exfalso; first | contradiction | omega | exact h Iff.rfl)) | (with_reducible refine sw_pick (fun h => ?_) (fun h => ?_)) <;> (try (exfalso; first | contradiction | omega | exact h Iff.rfl)) | fail)
  · refine DISK.sw (p := p) (s := s.met) fun y hy => ?_
    unfold DISKl
    refine sw_ent (Ent.dup_take (k := y.q) (k' := y.q + 1) (r' := BoolsI y.kv s.keep) fun _ hp => hp.2.2.fp) ?_
    repeat' (first | with_reducible (first | refine go1 ?_ | refine sct ?_ | refine scf ?_ | refine sgr ?_) | fail)
    refine sw_bools (y.q + 1) fun rr hrr => ?_
    refine sw_ent (Rs'' := (p, DISK p s.met) :: (y.q + 1, rr) :: F) ?_ ?_
    · refine Ent.trans (B := DISKl p s.met y ((y.q + 1, rr) :: F)) ?_ (DISK.close hy)
      unfold DISKl
      repeat' (first | with_reducible exact Ent.refl _ | with_reducible refine Ent.take_eq ?_ ?_ | rfl | with_reducible refine Ent.trans (Ent.drop _ _) ?_)
    have hkl : s.keep.length ≤ 9223372036854775807 := hy.wf.k1
    repeat' (first | with_reducible (first | refine go1 ?_ | refine sct ?_ | refine scf ?_ | refine sgr ?_) | ((with_reducible refine sw_call (dGoes_ok p (y.q + 1) s.met rr y.kv s.keep hrr hkl) ?_); rintro _ _ ⟨ks, hks, rfl, rfl⟩) | fail)
    refine sq_ret1 Try.results38 ?_
    refine ⟨_, .inr ⟨by assumption, rfl, ks, hks, rfl⟩, ?_⟩
    repeat' (first | with_reducible exact Ent.refl _ | with_reducible refine Ent.take_eq ?_ ?_ | rfl | with_reducible refine Ent.trans (Ent.drop _ _) ?_)
  · refine DISK.sw (p := p) (s := s.met) fun x hx => ?_
    unfold DISKl
    repeat' (first | with_reducible (first | refine go1 ?_ | refine sct ?_ | refine scf ?_ | refine sgr ?_) | fail)
    refine sw_range (k := .i64) fun r N => ?_
    repeat' (first | with_reducible (first | refine go1 ?_ | refine sct ?_ | refine scf ?_ | refine sgr ?_) | fail)
    refine sc_loop (α := { y : List (Int × Value) × List Value // (∀ i v, (i, v) ∈ y.1 → x.f i = some v) ∧ y.2.length = x.vs.length ∧ ∀ j : Nat, y.2[j]? = if (j : Int) ∈ y.1.map (·.1) then x.f j else x.vs[j]? }) (fun y => [(0, .pointer (some ⟨p, 0, none⟩)), (23, .pointer (some ⟨r, 0, none⟩))])
      (fun y => (r, ItI .i64 x.m r x.f N y.1.1) :: (p, pts p (drow x.bS x.vs.length (x.vs.length + x.r.length) x.m s.met.down s.met.calls s.met.fuse x.kv)) :: (x.bS, pts x.bS (.cells (y.1.2 ++ x.r).toArray 67 (0, 0))) :: (x.q, DPers x.vs x.f x.kv s.met) :: F)
      (fun y => N - y.1.1.length) ⟨([], x.vs), by simp, rfl, by simp⟩ ?_ ?_ ?_
    · exact says_cons rfl (says_cons rfl says_nil)
    · repeat' (first | with_reducible exact Ent.refl _ | with_reducible refine Ent.take_eq ?_ ?_ | rfl | with_reducible refine Ent.trans (Ent.drop _ _) ?_)
    rintro ⟨⟨D, vs⟩, hD, hl, hvs⟩ e
    simp only at hD hl hvs
    simp only [List.cons_append, List.nil_append]
    refine sc_seq ?_
    refine sc_region ?_
    refine sw_next ?_ ?_
    · intro hall
      have hdom : ∀ i, (x.f i).isSome = true → 0 ≤ i ∧ i.toNat < x.vs.length := fun i hi => by
        rw [hx.dom i] at hi
        obtain ⟨xs, hxs⟩ := Option.isSome_iff_exists.1 hi
        have h1 := hx.wf.dat i xs hxs
        have h2 := hx.len
        omega
      have hvs' := merge_done hall hD hdom hvs
      subst hvs'
      refine sw_ent ItI.map ?_
      repeat' (first | with_reducible (first | refine go1 ?_ | refine sct ?_ | refine scf ?_ | refine sgr ?_) | with_reducible refine sw_clear ?_ | fail)
      refine sq_ret1 Try.results38 ?_
      refine ⟨_, .inl ⟨by assumption, rfl, rfl⟩, Ent.trans ?_ (Ent.trans (Ent.cons _ (Ent.cons _ (Ent.cons _ (Ent.head fun _ hp => DPers.barred hp)))) (DISK.close (p := p) (DX.barred_ok hx)))⟩
      have e1 : (mergeV x.f x.vs).length = x.vs.length := by unfold mergeV; rw [List.length_mapIdx]
      simp only [e1]
      repeat' (first | with_reducible exact Ent.refl _ | with_reducible refine Ent.take_eq ?_ ?_ | rfl | with_reducible refine Ent.trans (Ent.drop _ _) ?_)
    · intro i v hi hno hlt
      have hv := hx.one i v hi
      haveI : One v := ⟨hv⟩
      have hdi : 0 ≤ i ∧ i.toNat < x.vs.length := by
        have h1 : (s.met.dirty i).isSome = true := by rw [← hx.dom i, hi]; rfl
        obtain ⟨xs, hxs⟩ := Option.isSome_iff_exists.1 h1
        have h2 := hx.wf.dat i xs hxs
        have h3 := hx.len
        omega
      repeat' (first | with_reducible (first | refine go1 ?_ | refine sct ?_ | refine scf ?_ | refine sgr ?_) | with_reducible refine sw_idx i.toNat (by omega) ?_ | with_reducible refine sw_storeAt (by rw [List.length_append]; omega) ?_ | (with_reducible refine sc_cond (fun h => ?_) (fun h => ?_)) <;> (try (exfalso; first | contradiction | omega | exact h Iff.rfl)) | fail)
      have e3 : (vs ++ x.r).set i.toNat v = vs.set i.toNat v ++ x.r := List.set_append_left _ _ (by omega)
      rw [e3]
      refine sq_round ⟨(D ++ [(i, v)], vs.set i.toNat v), fun j u hj => ?_, ?_, merge_step hi hdi.1 (by omega) hvs⟩ ?_ ?_ ?_
      · rcases List.mem_append.1 hj with h | h
        · exact hD j u h
        · simp at h; obtain ⟨rfl, rfl⟩ := h; exact hi
      · rw [List.length_set]; exact hl
      · show N - (D ++ [(i, v)]).length < N - D.length
        rw [List.length_append, List.length_singleton]; omega
      · exact says_cons rfl (says_cons rfl says_nil)
      · repeat' (first | with_reducible exact Ent.refl _ | with_reducible refine Ent.take_eq ?_ ?_ | rfl | with_reducible refine Ent.trans (Ent.drop _ _) ?_)
end Go.Gsl

namespace Go.Gsl
set_option linter.unusedVariables false
open Go.Proofs

/-- a new disk -/
def Dk.new (n : Nat) : Dk := ⟨List.replicate n (List.replicate 512 0), fun _ => none, false, 0, 0, []⟩
theorem zeros_wf : SecWf (List.replicate 512 0) := ⟨List.length_replicate, fun x hx => by rw [List.eq_of_mem_replicate hx]; omega⟩
theorem Dk.new_wf {n : Nat} (h1 : 1 ≤ n) (h2 : n ≤ 16384) : (Dk.new n).Wf where
  n1 := by show 1 ≤ (List.replicate n _).length; rw [List.length_replicate]; exact h1
  n2 := by show (List.replicate n _).length ≤ 16384; rw [List.length_replicate]; exact h2
  sec := fun xs hx => by rw [List.eq_of_mem_replicate hx]; exact zeros_wf
  dsec := fun i xs hx => by cases hx
  dat := fun i xs hx => by cases hx
  f1 := Int.le_refl _
  f2 := by show (0 : Int) ≤ _; decide
  k1 := by show ([] : List Bool).length ≤ _; decide

/-- sectors of noughts -/
def Zs (us : List Value) : HProp := fun h => ∀ v ∈ us, Sec v (List.replicate 512 0) h

theorem dNew_bad (n : Int) (hn : n < 1 ∨ 16384 < n) : Spec Try.prog 16 [.int .i64 n] [] [] fun F v Rs' => v = .tuple #[.pointer none, .int .i64 1] ∧ Rs' = F := by
  refine spec_of Try.func16 rfl Try.ntmps16 rfl ?_
  intro w0 F
  repeat' (first | with_reducible (first | refine go1 ?_ | refine sct ?_ | refine scf ?_ | refine sgr ?_) | (with_reducible refine sc_cond (fun h => ?_) (fun h => ?_)) <;> (try (exfalso; first | contradiction | omega | exact h Iff.rfl)) | (with_reducible refine sw_guard_split (fun h => ?_) (fun h => ?_)) <;> (try (exfalso; first | contradiction | omega | exact h Iff.rfl)) | (with_reducible refine sw_pick (fun h => ?_) (fun h => ?_)) <;> (try (exfalso; first | contradiction | omega | exact h Iff.rfl)) | fail)
  all_goals
    refine sq_ret2 Try.results16 ?_
    exact ⟨_, ⟨rfl, rfl⟩, Ent.refl _⟩

set_option maxRecDepth 20000 in
theorem dNew_ok (n : Nat) (h1 : 1 ≤ n) (h2 : n ≤ 16384) : Spec Try.prog 16 [.int .i64 n] [] [] fun F v Rs' => ∃ p, v = .tuple #[.pointer (some ⟨p, 0, none⟩), .int .i64 0] ∧ Rs' = (p, DISK p (Dk.new n)) :: F := by
  refine spec_of Try.func16 rfl Try.ntmps16 rfl ?_
  intro w0 F
  repeat' (first | with_reducible (first | refine go1 ?_ | refine sct ?_ | refine scf ?_ | refine sgr ?_) | with_reducible refine sw_makeSlice n n ⟨rfl, rfl, by omega, by omega, by omega⟩ fun b => ?_ | with_reducible refine sw_makeMap (k := .i64) fun m => ?_ | (with_reducible refine sc_cond (fun h => ?_) (fun h => ?_)) <;> (try (exfalso; first | contradiction | omega | exact h Iff.rfl)) | (with_reducible refine sw_guard_split (fun h => ?_) (fun h => ?_)) <;> (try (exfalso; first | contradiction | omega | exact h Iff.rfl)) | (with_reducible refine sw_pick (fun h => ?_) (fun h => ?_)) <;> (try (exfalso; first | contradiction | omega | exact h Iff.rfl)) | fail)
  refine sw_build [.slice (some ⟨b, 0, none⟩) n n, .map (some m), .bool false, .int .i64 0, .int .i64 0, .slice none 0 0] rfl ?_
  refine sw_box fun p => ?_
  repeat' (first | with_reducible (first | refine go1 ?_ | refine sct ?_ | refine scf ?_ | refine sgr ?_) | fail)
  refine sc_ent (Ent.dup_take (k := b) (k' := b + 1) (r' := Zs []) fun _ _ => by intro v hv; cases hv) ?_
  refine sc_loop (α := { us : List Value // us.length ≤ n ∧ ∀ v ∈ us, v.oneCell' = true }) (fun us => [(4, .pointer (some ⟨p, 0, none⟩)), (21, .int .i64 n), (22, .int .i64 us.1.length)])
    (fun us => (b + 1, Zs us.1) :: (p, pts p (drow b n n m false 0 0 (.slice none 0 0))) :: (m, MapI .i64 m mnil) :: (b, pts b (.cells (us.1 ++ List.replicate (n - us.1.length) (Value.slice none 0 0)).toArray 67 (0, 0))) :: F)
    (fun us => n - us.1.length) ⟨[], by simp, by simp⟩ ?_ ?_ ?_
  · exact says_cons rfl (says_cons rfl (says_cons rfl says_nil))
  · repeat' (first | with_reducible exact Ent.refl _ | with_reducible refine Ent.take_eq ?_ ?_ | rfl | with_reducible refine Ent.trans (Ent.drop _ _) ?_)
  · rintro ⟨us, hus, hone⟩ e
    simp only [List.cons_append, List.nil_append]
    repeat' (first | with_reducible (first | refine go1 ?_ | refine sct ?_ | refine scf ?_ | refine sgr ?_) | (with_reducible refine sc_cond (fun h => ?_) (fun h => ?_)) <;> (try (exfalso; first | contradiction | omega | exact h Iff.rfl)) | fail)
    · have hlt : us.length < n := by omega
      refine sc_lin ([(p, pts p (drow b n n m false 0 0 (.slice none 0 0)))]) (llp 0 (llp 1 (llp 2 (llp 3 (llp 4 (lle 5 (llp 6 (lle 7 ll0)))))))) (by kernel_rfl) rfl (by kernel_rfl) ?_
      all_goals (iterate 5 refine go1l ?_)
      all_goals refine sl_eff ?_
      all_goals (repeat' (first | with_reducible (first | refine go1 ?_ | refine sct ?_ | refine scf ?_ | refine sgr ?_) | with_reducible refine sw_makeSlice 512 512 ⟨rfl, rfl, by omega, by omega, by omega⟩ fun b2 => ?_ | with_reducible refine sw_storeAt (by rw [List.length_append, List.length_replicate]; omega) ?_ | with_reducible refine sl_back ?_ | fail))
      all_goals refine sl_take (h := runop_idx us.length (by omega)) ?_
      all_goals refine sl_eff ?_
      all_goals (repeat' (first | with_reducible (first | refine go1 ?_ | refine sct ?_ | refine scf ?_ | refine sgr ?_) | with_reducible refine sw_makeSlice 512 512 ⟨rfl, rfl, by omega, by omega, by omega⟩ fun b2 => ?_ | with_reducible refine sw_storeAt (by rw [List.length_append, List.length_replicate]; omega) ?_ | with_reducible refine sl_back ?_ | fail))
      all_goals refine sl_done ?_
      refine sq_freeze (b := b2) ?_
      repeat' (first | with_reducible refine sw_in (by omega) ?_ | with_reducible (first | refine go1 ?_ | refine sct ?_ | refine scf ?_ | refine sgr ?_) | fail)
      have e1 : n - us.length = (n - (us.length + 1)) + 1 := by omega
      have e2 : (us ++ List.replicate (n - us.length) (Value.slice none 0 0)).set us.length (.slice (some ⟨b2, 0, none⟩) 512 512) = (us ++ [Value.slice (some ⟨b2, 0, none⟩) 512 512]) ++ List.replicate (n - (us.length + 1)) (Value.slice none 0 0) := by
        rw [e1, List.replicate_succ, List.set_append_right _ _ (Nat.le_refl _), Nat.sub_self, List.set_cons_zero, List.append_assoc]; rfl
      rw [e2]
      refine sq_round ⟨us ++ [Value.slice (some ⟨b2, 0, none⟩) 512 512], ?_, ?_⟩ ?_ ?_ ?_
      · rw [List.length_append, List.length_singleton]; omega
      · intro v hv
        rcases List.mem_append.1 hv with h | h
        · exact hone v h
        · rw [List.mem_singleton.1 h]; rfl
      · show n - (us ++ [Value.slice (some ⟨b2, 0, none⟩) 512 512]).length < n - us.length
        rw [List.length_append, List.length_singleton]; omega
      · exact says_cons rfl (says_cons rfl (says_cons (by simp) says_nil))
      · show Ent _ ((b + 1, Zs (us ++ [Value.slice (some ⟨b2, 0, none⟩) 512 512])) :: (p, pts p (drow b n n m false 0 0 (.slice none 0 0))) :: (m, MapI .i64 m mnil) :: (b, pts b (.cells (us ++ [Value.slice (some ⟨b2, 0, none⟩) 512 512] ++ List.replicate (n - (us ++ [Value.slice (some ⟨b2, 0, none⟩) 512 512]).length) (Value.slice none 0 0)).toArray 67 (0, 0))) :: F)
        rw [List.length_append, List.length_singleton]
        refine Ent.trans (B := (b + 1, Zs us) :: (b2, imm b2 (.cells (List.replicate 512 (Value.int .u8 0)).toArray 5 (0, 0))) :: (p, pts p (drow b n n m false 0 0 (.slice none 0 0))) :: (m, MapI .i64 m mnil) :: (b, pts b (.cells (us ++ [Value.slice (some ⟨b2, 0, none⟩) 512 512] ++ List.replicate (n - (us.length + 1)) (Value.slice none 0 0)).toArray 67 (0, 0))) :: F) ?_ (Ent.join fun x y hd hx hy v hv => ?_)
        · repeat' (first | with_reducible exact Ent.refl _ | with_reducible refine Ent.take_eq ?_ ?_ | rfl | with_reducible refine Ent.trans (Ent.drop _ _) ?_)
        · rcases List.mem_append.1 hv with h | h
          · exact (hx v h).left
          · rw [List.mem_singleton.1 h]
            refine Sec.right hd ⟨b2, [], by rw [List.length_replicate]; rfl, ?_⟩
            rw [List.map_replicate, List.append_nil]
            exact hy
    · have hl : us.length = n := by omega
      subst hl
      refine sq_ret2 Try.results16 ?_
      refine ⟨_, ⟨p, rfl, rfl⟩, Ent.trans (B := DISKl p (Dk.new us.length) ⟨b, m, b + 1, .slice none 0 0, us, [], mnil⟩ F) ?_ (DISK.close ⟨Dk.new_wf h1 h2, ?_, fun j => rfl, fun j v hv => by cases hv⟩)⟩
      · unfold DISKl
        refine Ent.trans (B := (b + 1, DPers us mnil (.slice none 0 0) (Dk.new us.length)) :: (p, pts p (drow b us.length us.length m false 0 0 (.slice none 0 0))) :: (m, MapI .i64 m mnil) :: (b, pts b (.cells (us ++ List.replicate (us.length - us.length) (Value.slice none 0 0)).toArray 67 (0, 0))) :: F) (Ent.head fun h hz => ⟨fun i v xs hv hx => ?_, fun j => ⟨rfl, fun v xs hv => by cases hv⟩, .inl ⟨rfl, rfl⟩⟩) ?_
        · have hx : (List.replicate us.length (List.replicate 512 (0 : Int)))[i]? = some xs := hx
          rw [List.getElem?_replicate] at hx
          split at hx
          · cases hx; exact hz v (List.mem_of_getElem? hv)
          · cases hx
        · rw [Nat.sub_self, List.replicate_zero]
          repeat' (first | with_reducible exact Ent.refl _ | with_reducible refine Ent.take_eq ?_ ?_ | rfl | with_reducible refine Ent.trans (Ent.drop _ _) ?_)
      · show us.length = (List.replicate us.length _).length
        rw [List.length_replicate]
end Go.Gsl

namespace Go.Gsl
set_option linter.unusedVariables false
open Go.Proofs

section
variable {P : Program} {n : Nat} {w0 : World} {e : Env} {Rs F : List Res} {ty : TypeId}
theorem runop_load_rd {t : TypeId} {x : Operand} {b o o' : Nat} {xs : List Value} {r : HProp} (k i : Nat) (v : Value) [hx : Ev n e x (.pointer (some ⟨b, o', none⟩))] [hn : NonAgg P t] [tk : Take Rs k r F] (hr : Reads r (some ⟨b, o, none⟩) xs) (hv : xs[i]? = some v) (ho : o' = o + i) :
    RunOp P n w0 e Rs (.load t x) ty v := runop_load (a := ⟨b, o', none⟩) fun w hw => by
  obtain ⟨ad, h1, h2⟩ := hr.sat (k := k) hw i v hv
  cases h1
  rw [add_plain] at h2
  rw [ho]; exact h2
end

/-- slices.Equal of bytes -/
theorem eqB_ok (k1 k2 : Nat) (r1 r2 : HProp) (b1 b2 m1 c1 m2 c2 : Nat) (xs ys : List Int) (h1 : Reads r1 (some ⟨b1, 0, none⟩) (xs.map (Value.int .u8))) (h2 : Reads r2 (some ⟨b2, 0, none⟩) (ys.map (Value.int .u8))) (l1 : xs.length = m1) (l2 : ys.length = m2) (hm : m1 ≤ 4398046511104) :
    Spec Try.prog 45 [.slice (some ⟨b1, 0, none⟩) m1 c1, .slice (some ⟨b2, 0, none⟩) m2 c2] [k1, k2] [r1, r2] fun F v Rs' => v = .bool (decide (xs = ys)) ∧ Rs' = (k1, r1) :: (k2, r2) :: F := by
  subst l1 l2
  refine spec_of Try.func45 rfl Try.ntmps45 rfl ?_
  intro w0 F
  repeat' (first | with_reducible (first | refine go1 ?_ | refine sct ?_ | refine scf ?_ | refine sgr ?_) | (with_reducible refine sc_cond (fun h => ?_) (fun h => ?_)) <;> (try (exfalso; first | contradiction | omega | exact h Iff.rfl)) | fail)
  · refine sq_ret1 Try.results45 ?_
    refine ⟨_, ⟨?_, rfl⟩, Ent.refl _⟩
    rw [decide_eq_false]
    intro e; subst e; exact h rfl
  · have hl : xs.length = ys.length := by omega
    refine sc_loop (α := { i : Nat // i ≤ xs.length ∧ xs.take i = ys.take i }) (fun i => [(0, .slice (some ⟨b1, 0, none⟩) xs.length c1), (1, .slice (some ⟨b2, 0, none⟩) ys.length c2), (12, .int .i64 xs.length), (13, .int .i64 i.1)])
      (fun _ => (k1, r1) :: (k2, r2) :: F) (fun i => xs.length - i.1) ⟨0, Nat.zero_le _, rfl⟩ ?_ ?_ ?_
    · exact says_cons rfl (says_cons rfl (says_cons rfl (says_cons rfl says_nil)))
    · repeat' (first | with_reducible exact Ent.refl _ | with_reducible refine Ent.take_eq ?_ ?_ | rfl | with_reducible refine Ent.trans (Ent.drop _ _) ?_)
    · rintro ⟨i, hi, he⟩ e
      simp only [List.cons_append, List.nil_append]
      repeat' (first | with_reducible (first | refine go1 ?_ | refine sct ?_ | refine scf ?_ | refine sgr ?_) | (with_reducible refine sc_cond (fun h => ?_) (fun h => ?_)) <;> (try (exfalso; first | contradiction | omega | exact h Iff.rfl)) | fail)
      · have hlt : i < xs.length := by omega
        have hlt2 : i < ys.length := by omega
        have v1 : (xs.map (Value.int .u8))[i]? = some (.int .u8 xs[i]) := by rw [List.getElem?_map, List.getElem?_eq_getElem hlt]; rfl
        have v2 : (ys.map (Value.int .u8))[i]? = some (.int .u8 ys[i]) := by rw [List.getElem?_map, List.getElem?_eq_getElem hlt2]; rfl
        refine sc_lin ([(k1, r1), (k2, r2)]) (llp 0 (llp 1 (llp 2 (llp 3 (llp 4 (llp 5 (llp 6 (llp 7 (llp 8 ll0))))))))) (by kernel_rfl) rfl (by kernel_rfl) ?_
        all_goals (iterate 2 refine go1l ?_)
        all_goals refine sl_take (h := runop_idx i (by omega)) ?_
        all_goals refine sl_take (h := runop_load_rd k1 i (.int .u8 xs[i]) h1 v1 (by omega)) ?_
        all_goals (iterate 2 refine go1l ?_)
        all_goals refine sl_take (h := runop_idx i (by omega)) ?_
        all_goals refine sl_take (h := runop_load_rd k2 i (.int .u8 ys[i]) h2 v2 (by omega)) ?_
        all_goals refine go1l ?_
        all_goals refine sl_done ?_
        repeat' (first | with_reducible refine sw_in (by omega) ?_ | with_reducible (first | refine go1 ?_ | refine sct ?_ | refine scf ?_ | refine sgr ?_) | (with_reducible refine sc_cond (fun h => ?_) (fun h => ?_)) <;> (try (exfalso; first | contradiction | omega | exact h Iff.rfl)) | fail)
        · refine sq_ret1 Try.results45 ?_
          refine ⟨_, ⟨?_, rfl⟩, Ent.refl _⟩
          rw [decide_eq_false]
          rintro rfl
          exact h rfl
        · refine sq_round ⟨i + 1, hlt, ?_⟩ ?_ ?_ ?_
          · rw [List.take_add_one, List.take_add_one, he, List.getElem?_eq_getElem hlt, List.getElem?_eq_getElem hlt2, Decidable.not_not.1 h]
          · show xs.length - (i + 1) < xs.length - i
            omega
          · exact says_cons rfl (says_cons rfl (says_cons rfl (says_cons rfl says_nil)))
          · repeat' (first | with_reducible exact Ent.refl _ | with_reducible refine Ent.take_eq ?_ ?_ | rfl | with_reducible refine Ent.trans (Ent.drop _ _) ?_)
      · refine sq_ret1 Try.results45 ?_
        refine ⟨_, ⟨?_, rfl⟩, Ent.refl _⟩
        have hi2 : i = xs.length := by omega
        subst hi2
        rw [decide_eq_true]
        rw [List.take_length, hl, List.take_length] at he
        exact he
end Go.Gsl

namespace Go.Gsl
set_option linter.unusedVariables false
open Go.Proofs

theorem sorted_unique : ∀ (xs ys : List Int), xs.Nodup → ys.Nodup → xs.Pairwise (· ≤ ·) → ys.Pairwise (· ≤ ·) → (∀ i, i ∈ xs ↔ i ∈ ys) → xs = ys
  | [], [], _, _, _, _, _ => rfl
  | [], y :: ys, _, _, _, _, h => by have := (h y).2 (by simp); simp at this
  | x :: xs, [], _, _, _, _, h => by have := (h x).1 (by simp); simp at this
  | x :: xs, y :: ys, n1, n2, p1, p2, h => by
    rw [List.nodup_cons] at n1 n2
    rw [List.pairwise_cons] at p1 p2
    have hxy : x = y := by
      have h1 : x ∈ y :: ys := (h x).1 (by simp)
      have h2 : y ∈ x :: xs := (h y).2 (by simp)
      rcases List.mem_cons.1 h1 with e | h1
      · exact e
      rcases List.mem_cons.1 h2 with e | h2
      · exact e.symm
      have := p1.1 y h2
      have := p2.1 x h1
      omega
    subst hxy
    rw [sorted_unique xs ys n1.2 n2.2 p1.2 p2.2 fun i => ?_]
    constructor
    · intro hi
      rcases List.mem_cons.1 ((h i).1 (by simp [hi])) with e | h1
      · subst e; exact absurd hi n1.1
      · exact h1
    · intro hi
      rcases List.mem_cons.1 ((h i).2 (by simp [hi])) with e | h1
      · subst e; exact absurd hi n2.1
      · exact h1

theorem KeysD.unique {g : Int → Option (List Int)} {ks ks' : List Int} (h : KeysD g ks) (h' : KeysD g ks') : ks = ks' :=
  sorted_unique ks ks' h.nodup h'.nodup h.le h'.le fun i => by rw [h.mem i, h'.mem i]

theorem goS_not (g : Int → Option (List Int)) : ∀ (ks : List Int) (bs : List Bool) (ss : List (List Int)) (j : Nat), (∀ k ∈ ks, k.toNat ≠ j) → (goS g ks bs ss)[j]? = ss[j]?
  | [], _, _, _, _ => rfl
  | _ :: _, [], _, _, _ => rfl
  | k :: ks, b :: bs, ss, j, h => by
    rw [goS, goS_not g ks bs _ j fun k hk => h k (by simp [hk])]
    split
    · rw [List.getElem?_set, if_neg (h k (by simp))]
    · rfl

theorem goS_get (g : Int → Option (List Int)) : ∀ (ks : List Int) (bs : List Bool) (ss : List (List Int)) (n : Nat) (k : Int), ks.Nodup → (∀ k ∈ ks, 0 ≤ k ∧ k.toNat < ss.length) → ks[n]? = some k →
    (goS g ks bs ss)[k.toNat]? = if bs[n]? = some true then some ((g k).getD []) else ss[k.toNat]?
  | [], _, _, _, _, _, _, h => by simp at h
  | _ :: _, [], _, _, _, _, _, _ => by simp [goS]
  | k0 :: ks, b :: bs, ss, n, k, hn, h0, h => by
    rw [List.nodup_cons] at hn
    rw [goS]
    have hlen : (if b = true then ss.set k0.toNat ((g k0).getD []) else ss).length = ss.length := by split <;> simp
    have hk0 := h0 k0 (by simp)
    cases n with
    | zero =>
      simp only [List.getElem?_cons_zero, Option.some.injEq] at h
      subst h
      rw [goS_not g ks bs _ _ fun k hk e => hn.1 (by have := h0 k (by simp [hk]); have e2 : k = k0 := by omega
                                                     rw [← e2]; exact hk)]
      simp only [List.getElem?_cons_zero, Option.some.injEq]
      split
      · rw [List.getElem?_set, if_pos rfl, if_pos hk0.2]
      · rfl
    | succ n =>
      simp only [List.getElem?_cons_succ] at h
      have hmem : k ∈ ks := List.mem_of_getElem? h
      have hk := h0 k (by simp [hmem])
      rw [goS_get g ks bs _ n k hn.2 (fun j hj => by rw [hlen]; exact h0 j (by simp [hj])) h]
      simp only [List.getElem?_cons_succ]
      split
      · rfl
      · split
        · rw [List.getElem?_set, if_neg]
          intro e
          have e2 : k0 = k := by omega
          subst e2
          exact hn.1 hmem
        · rfl

/-- how far a walk over the sectors has come in the list of the dirty ones -/
structure AtK (ks : List Int) (n : Nat) (i : Int) : Prop where
  lt : ∀ k ∈ ks.take n, k < i
  ge : ∀ k ∈ ks.drop n, i ≤ k
theorem AtK.zero {ks : List Int} (h : ∀ k ∈ ks, 0 ≤ k) : AtK ks 0 0 := ⟨by simp, by simpa using h⟩
theorem AtK.hit {ks : List Int} {n : Nat} {i : Int} (h : AtK ks n i) (hn : ks.Nodup) (hp : ks.Pairwise (· ≤ ·)) (hi : i ∈ ks) : ks[n]? = some i ∧ AtK ks (n + 1) (i + 1) := by
  have hd : i ∈ ks.drop n := by
    rw [← List.take_append_drop n ks] at hi
    rcases List.mem_append.1 hi with h1 | h1
    · have := h.lt i h1; omega
    · exact h1
  have hlt : n < ks.length := by
    rcases Nat.lt_or_ge n ks.length with h1 | h1
    · exact h1
    · rw [List.drop_eq_nil_of_le h1] at hd; simp at hd
  have hde : ks.drop n = ks[n] :: ks.drop (n + 1) := List.drop_eq_getElem_cons hlt
  have hpd : (ks.drop n).Pairwise (· ≤ ·) := hp.sublist (List.drop_sublist n ks)
  have hnd : (ks.drop n).Nodup := hn.sublist (List.drop_sublist n ks)
  have h1 := h.ge ks[n] (by rw [hde]; exact List.mem_cons_self)
  rw [hde, List.pairwise_cons] at hpd
  rw [hde, List.nodup_cons] at hnd
  rw [hde] at hd
  have he : ks[n] = i := by
    rcases List.mem_cons.1 hd with e | h2
    · exact e.symm
    · have := hpd.1 i h2; omega
  refine ⟨by rw [List.getElem?_eq_getElem hlt, he], ?_, ?_⟩
  · intro k hk
    rw [List.take_add_one, List.getElem?_eq_getElem hlt, he] at hk
    rcases List.mem_append.1 hk with h2 | h2
    · have := h.lt k h2; omega
    · simp at h2; omega
  · intro k hk
    have h2 := h.ge k (by rw [hde]; exact List.mem_cons_of_mem _ hk)
    have h3 : k ≠ i := fun e => hnd.1 (by rw [he, ← e]; exact hk)
    omega
theorem AtK.miss {ks : List Int} {n : Nat} {i : Int} (h : AtK ks n i) (hi : i ∉ ks) : AtK ks n (i + 1) where
  lt := fun k hk => by have := h.lt k hk; omega
  ge := fun k hk => by
    have h1 := h.ge k hk
    have h2 : k ≠ i := fun e => hi (e ▸ List.mem_of_mem_drop hk)
    omega

/-- what has come to stand in a sector, once the power is gone -/
theorem Dk.gone_hit {s : Dk} {ks : List Int} {bs : List Bool} (hw : s.Wf) (hk : KeysD s.dirty ks) {n : Nat} {i : Int} (h : ks[n]? = some i) :
    (s.gone ks bs).sure[i.toNat]? = if bs[n]? = some true then some ((s.dirty i).getD []) else s.sure[i.toNat]? :=
  goS_get s.dirty ks bs s.sure n i hk.nodup (fun k hm => by
    obtain ⟨xs, hx⟩ := Option.isSome_iff_exists.1 ((hk.mem k).1 hm)
    have := hw.dat k xs hx
    omega) h
theorem Dk.gone_miss {s : Dk} {ks : List Int} {bs : List Bool} (hw : s.Wf) (hk : KeysD s.dirty ks) {i : Int} (h0 : 0 ≤ i) (h : i ∉ ks) : (s.gone ks bs).sure[i.toNat]? = s.sure[i.toNat]? :=
  goS_not s.dirty ks bs s.sure i.toNat fun k hm e => by
    obtain ⟨xs, hx⟩ := Option.isSome_iff_exists.1 ((hk.mem k).1 hm)
    have := hw.dat k xs hx
    exact h (by have e2 : i = k := by omega
                rw [e2]; exact hm)
end Go.Gsl

namespace Go.Gsl
set_option linter.unusedVariables false
open Go.Proofs

theorem Dk.looks_ok {s : Dk} {a : Int} (h : s.down = false) (h0 : 0 ≤ a) (h1 : a < s.sure.length) : s.looks a = 0 := by
  unfold Dk.looks; rw [h]; simp; omega
theorem Dk.looks_zero {s : Dk} {a : Int} (h : s.looks a = 0) : s.down = false ∧ 0 ≤ a ∧ a < s.sure.length := by
  unfold Dk.looks at h
  split at h
  · cases h
  · split at h
    · cases h
    · rename_i h1 h2
      exact ⟨by simpa using h1, by omega, by omega⟩
theorem Dk.looks_bad {s : Dk} {a : Int} (h : s.down = false) (h1 : s.looks a ≠ 0) : s.looks a = 20 ∧ (a < 0 ∨ s.sure.length ≤ a) := by
  unfold Dk.looks at h1 ⊢
  rw [h] at h1 ⊢
  simp at h1 ⊢
  omega
theorem mergeS_len (g : Int → Option (List Int)) (ss : List (List Int)) : (mergeS g ss).length = ss.length := by unfold mergeS; rw [List.length_mapIdx]
theorem Dk.barred_len (s : Dk) : s.barred.sure.length = s.sure.length := mergeS_len _ _
theorem Dk.gone_len (s : Dk) (ks : List Int) (bs : List Bool) : (s.gone ks bs).sure.length = s.sure.length := goS_len _ _ _ _
theorem Dk.now_sure {s : Dk} {i : Int} (h : s.dirty i = none) : s.now i = (s.sure[i.toNat]?).getD [] := by unfold Dk.now; rw [h]; rfl

/-- the first elements of a row -/
theorem reads_row {b : Nat} {xs r : List Value} {t : TypeId} {fr : Nat × Nat} : Reads (pts b (.cells (xs ++ r).toArray t fr)) (some ⟨b, 0, none⟩) xs :=
  reads_pts fun j v hj => by rw [Nat.zero_add, List.getElem?_append_left (List.getElem?_eq_some_iff.1 hj).1]; exact hj
theorem reads_row0 {b : Nat} {xs : List Value} {t : TypeId} {fr : Nat × Nat} : Reads (pts b (.cells xs.toArray t fr)) (some ⟨b, 0, none⟩) xs :=
  reads_pts fun j v hj => by rw [Nat.zero_add]; exact hj

/-- the power back -/
def Dk.up (s : Dk) : Dk := { s with down := false }
theorem dRestart_up (p : Nat) (s : Dk) : Spec Try.prog 26 [.pointer (some ⟨p, 0, none⟩)] [p] [DISK p s] fun F v Rs' => v = .int .i64 0 ∧ Rs' = (p, DISK p s.up) :: F := dRestart_ok p s
theorem secOf_len (a b : Int) : (secOf a b).length = 512 := by unfold secOf; rw [List.length_cons, List.length_replicate]
theorem rdBools_nil (r : HProp) : RdBools r (.slice none 0 0) [] := ⟨none, 0, rfl, fun h => by simp at h, reads_nil _ _⟩

theorem reads_zeros {b n : Nat} {t : TypeId} {fr : Nat × Nat} : Reads (pts b (.cells (List.replicate n (Value.int .u8 0)).toArray t fr)) (some ⟨b, 0, none⟩) ((List.replicate n (0 : Int)).map (Value.int .u8)) := by
  rw [List.map_replicate]; exact reads_row0

/-- a write of a sector, whatever -/
theorem dWrite_any (p k : Nat) (s : Dk) (r : HProp) (ad : Option Addr) (c : Nat) (a : Int) (xs : List Int) (hx : SecWf xs) (hne : ad ≠ none) (hr : Reads r ad (xs.map (Value.int .u8))) : Spec Try.prog 36 [.pointer (some ⟨p, 0, none⟩), .int .i64 a, .slice ad 512 c] [p, k] [DISK p s, r]
    fun F v Rs' => (s.looks a ≠ 0 ∧ v = .int .i64 (s.looks a) ∧ Rs' = (p, DISK p s) :: (k, r) :: F) ∨
      (s.looks a = 0 ∧ s.fuse ≠ 1 ∧ v = .int .i64 0 ∧ Rs' = (p, DISK p (s.wrote a xs)) :: (k, r) :: F) ∨
      (s.looks a = 0 ∧ s.fuse = 1 ∧ v = .int .i64 6 ∧ ∃ ks, KeysD (s.wrote a xs).dirty ks ∧ Rs' = (p, DISK p ((s.wrote a xs).gone ks s.keep)) :: (k, r) :: F) := by
  by_cases h : s.looks a = 0
  · exact (dWrite_ok p k s r ad c a xs h hx hne hr).mono fun F v Rs' h2 => by
      rcases h2 with ⟨h3, h4, h5⟩ | ⟨h3, h4, h5⟩
      · exact .inr (.inl ⟨h, h3, h4, h5⟩)
      · exact .inr (.inr ⟨h, h3, h4, h5⟩)
  · exact (dWrite_bad p k s r _ a h).mono fun F v Rs' h2 => .inl ⟨h, h2⟩

theorem dWrite_f0 (p k : Nat) (s : Dk) (r : HProp) (ad : Option Addr) (c : Nat) (a : Int) (xs : List Int) (hx : SecWf xs) (hne : ad ≠ none) (hr : Reads r ad (xs.map (Value.int .u8))) (hf : s.fuse ≠ 1) : Spec Try.prog 36 [.pointer (some ⟨p, 0, none⟩), .int .i64 a, .slice ad 512 c] [p, k] [DISK p s, r]
    fun F v Rs' => (s.looks a ≠ 0 ∧ v = .int .i64 (s.looks a) ∧ Rs' = (p, DISK p s) :: (k, r) :: F) ∨
      (s.looks a = 0 ∧ v = .int .i64 0 ∧ Rs' = (p, DISK p (s.wrote a xs)) :: (k, r) :: F) :=
  (dWrite_any p k s r ad c a xs hx hne hr).mono fun F v Rs' h => by
    rcases h with h | ⟨h, _, h2⟩ | ⟨_, h, _⟩
    · exact .inl h
    · exact .inr ⟨h, h2⟩
    · exact absurd h hf

theorem Dk.now1_eq {s : Dk} {xs : List Int} (h : s.dirty = fun _ => none) {i : Nat} (h2 : s.sure[i]? = some xs) : s.now i = xs := by
  rw [Dk.now_sure (by rw [h]), Int.toNat_natCast, h2]; rfl

set_option maxRecDepth 20000 in
theorem begun_law (ks : List Int) : let s3 := (((Dk.new 2).wrote 0 (secOf 1 2)).barred).wrote 1 (secOf 3 4)
    ((s3.gone ks []).up.now 0 = secOf 1 2) ∧ ((s3.gone ks []).up.now 1 = List.replicate 512 0) := by
  intro s3
  have e : (s3.gone ks []).sure = [secOf 1 2, List.replicate 512 0] := by
    show goS _ ks [] _ = _
    rw [show ∀ g ss, goS g ks [] ss = ss by intro g ss; cases ks <;> rfl]
    show mergeS _ _ = _
    unfold mergeS
    show List.mapIdx _ [List.replicate 512 0, List.replicate 512 0] = _
    rfl
  constructor
  · exact Dk.now1_eq (i := 0) rfl (by show (s3.gone ks []).sure[0]? = _; rw [e]; rfl)
  · exact Dk.now1_eq (i := 1) rfl (by show (s3.gone ks []).sure[1]? = _; rw [e]; rfl)
end Go.Gsl
