/- The disk: its memory; the small functions. -/
import Derived.Test.YtemediifhpgdgaaGreatGI
import Derived.Test.YtemediifhpgdgaaGreatGA
import Derived.Test.YtemediifhpgdgaaGreatGE
namespace Go.Gsl
set_option linter.unusedVariables false
open Go.Proofs

/-! ### the disk's state -/
structure Dk where
  sure : List (List Int)
  dirty : Int → Option (List Int)
  down : Bool
  calls : Int
  fuse : Int
  keep : List Bool

/-- a sector's bytes -/
structure SecWf (xs : List Int) : Prop where
  len : xs.length = 512
  byte : ∀ x ∈ xs, 0 ≤ x ∧ x ≤ 255

structure Dk.Wf (s : Dk) : Prop where
  n1 : 1 ≤ s.sure.length
  n2 : s.sure.length ≤ 16384
  sec : ∀ xs ∈ s.sure, SecWf xs
  dsec : ∀ i xs, s.dirty i = some xs → SecWf xs
  dat : ∀ i xs, s.dirty i = some xs → 0 ≤ i ∧ i < s.sure.length
  f1 : 0 ≤ s.fuse
  f2 : s.fuse ≤ 9223372036854775807
  k1 : s.keep.length ≤ 9223372036854775807

/-- a sector that lies for ever -/
def Sec (v : Value) (xs : List Int) : HProp := fun h => ∃ b r, v = .slice (some ⟨b, 0, none⟩) xs.length (xs.length + r.length) ∧ imm b (.cells (xs.map (Value.int .u8) ++ r).toArray 5 (0, 0)) h
/-- the sectors in a row -/
def Secs (vs : List Value) (xss : List (List Int)) : HProp := fun h => ∀ (i : Nat) (v : Value) (xs : List Int), vs[i]? = some v → xss[i]? = some xs → Sec v xs h
/-- the dirty ones -/
def DirtyS (f : Int → Option Value) (g : Int → Option (List Int)) : HProp := fun h => ∀ j, (f j).isSome = (g j).isSome ∧ ∀ v xs, f j = some v → g j = some xs → Sec v xs h
/-- bools that lie for ever -/
def BoolsI (v : Value) (bs : List Bool) : HProp := fun h => (v = .slice none 0 0 ∧ bs = []) ∨ ∃ b r, v = .slice (some ⟨b, 0, none⟩) bs.length (bs.length + r.length) ∧ imm b (.cells (bs.map Value.bool ++ r).toArray 4 (0, 0)) h

/-- all that lies for ever -/
def DPers (vs : List Value) (f : Int → Option Value) (kv : Value) (s : Dk) : HProp := fun h => Secs vs s.sure h ∧ DirtyS f s.dirty h ∧ BoolsI kv s.keep h

abbrev drow (bS n c m : Nat) (down : Bool) (calls fuse : Int) (kv : Value) : Obj := .cells [.slice (some ⟨bS, 0, none⟩) n c, .map (some m), .bool down, .int .i64 calls, .int .i64 fuse, kv].toArray 102 (0, 0)

structure DX where
  bS : Nat
  m : Nat
  q : Nat
  kv : Value
  vs : List Value
  r : List Value
  f : Int → Option Value

structure DX.Ok (x : DX) (s : Dk) : Prop where
  wf : s.Wf
  len : x.vs.length = s.sure.length
  dom : ∀ j, (x.f j).isSome = (s.dirty j).isSome
  one : ∀ j v, x.f j = some v → v.oneCell' = true

def DISKl (p : Nat) (s : Dk) (x : DX) (F : List Res) : List Res :=
  (p, pts p (drow x.bS x.vs.length (x.vs.length + x.r.length) x.m s.down s.calls s.fuse x.kv)) :: (x.bS, pts x.bS (.cells (x.vs ++ x.r).toArray 53 (0, 0))) :: (x.m, MapI .i64 x.m x.f) :: (x.q, DPers x.vs x.f x.kv s) :: F

/-- A disk stands at p. -/
def DISK (p : Nat) (s : Dk) : HProp := fun h => ∃ x : DX, x.Ok s ∧ hall (DISKl p s x []) h

theorem DISK.openS {p k : Nat} {s : Dk} {F : List Res} {w0 w : World} (hs : Sat w0 w ((k, DISK p s) :: F)) : ∃ x : DX, x.Ok s ∧ Sat w0 w (DISKl p s x F) := by
  obtain ⟨x, hx, h⟩ := hs.opn (φ := fun x : DX => x.Ok s) (p := fun x => hall (DISKl p s x [])) fun y ⟨x, h1, h2⟩ => ⟨x, h1, h2⟩
  exact ⟨x, hx, h.ent (Ent.hall_open _ _ _)⟩

theorem DISK.close {p : Nat} {s : Dk} {x : DX} {F : List Res} (hx : x.Ok s) : Ent (DISKl p s x F) ((p, DISK p s) :: F) :=
  (Ent.hall_close p (DISKl p s x []) F).trans (Ent.head fun _ h => ⟨x, hx, h⟩)

section
variable {P : Program} {ops : List Oper} {Q : Cont} {n : Nat} {w0 : World} {l : List Oper} {e : Env} {Rs F : List Res}
theorem DISK.sc {c : Code} {p : Nat} {s : Dk} [t : Take Rs p (DISK p s) F] (h : ∀ x : DX, x.Ok s → SC P Q n w0 c e (DISKl p s x F)) : SC P Q n w0 c e Rs := by
  intro w hw
  obtain ⟨x, hx, hs⟩ := DISK.openS (hw.ent t.ent)
  exact h x hx w hs
theorem DISK.sw {p : Nat} {s : Dk} [t : Take Rs p (DISK p s) F] (h : ∀ x : DX, x.Ok s → SW P ops Q n w0 l e (DISKl p s x F)) : SW P ops Q n w0 l e Rs := by
  intro w hw
  obtain ⟨x, hx, hs⟩ := DISK.openS (hw.ent t.ent)
  exact h x hx w hs
theorem DISK.scwf' {p : Nat} {s : Dk} [t : Take Rs p (DISK p s) F] (h : s.Wf → SW P ops Q n w0 l e Rs) : SW P ops Q n w0 l e Rs := by
  intro w hw
  obtain ⟨x, hx, hs⟩ := DISK.openS (hw.ent t.ent)
  exact h hx.wf w hw
theorem DISK.scwf {c : Code} {p : Nat} {s : Dk} [t : Take Rs p (DISK p s) F] (h : s.Wf → SC P Q n w0 c e Rs) : SC P Q n w0 c e Rs := by
  intro w hw
  obtain ⟨x, hx, hs⟩ := DISK.openS (hw.ent t.ent)
  exact h hx.wf w hw
end

/-! ### none -/
theorem dNone_nil : Spec Tryz.prog 51 [.pointer none] [] [] fun F v Rs' => v = .bool true ∧ Rs' = F := by
  refine spec_of Tryz.func51 rfl Tryz.ntmps51 rfl ?_
  intro w0 F
  repeat' (first | with_reducible (first | refine go1 ?_ | refine sct ?_ | refine scf ?_ | refine sgr ?_) | fail)
  refine sq_ret1 Tryz.results51 ?_
  exact ⟨_, ⟨rfl, rfl⟩, Ent.refl _⟩
abbrev dzero : Obj := .cells [.slice none 0 0, .map none, .bool false, .int .i64 0, .int .i64 0, .slice none 0 0].toArray 102 (0, 0)
theorem dNone_zero (p : Nat) : Spec Tryz.prog 51 [.pointer (some ⟨p, 0, none⟩)] [p] [pts p dzero] fun F v Rs' => v = .bool true ∧ Rs' = (p, pts p dzero) :: F := by
  refine spec_of Tryz.func51 rfl Tryz.ntmps51 rfl ?_
  intro w0 F
  repeat' (first | with_reducible (first | refine go1 ?_ | refine sct ?_ | refine scf ?_ | refine sgr ?_) | fail)
  refine sq_ret1 Tryz.results51 ?_
  exact ⟨_, ⟨rfl, rfl⟩, Ent.refl _⟩
theorem dNone_raw (p bS n c m : Nat) (down : Bool) (calls fuse : Int) (kv : Value) : Spec Tryz.prog 51 [.pointer (some ⟨p, 0, none⟩)] [p] [pts p (drow bS n c m down calls fuse kv)] fun F v Rs' => v = .bool false ∧ Rs' = (p, pts p (drow bS n c m down calls fuse kv)) :: F := by
  refine spec_of Tryz.func51 rfl Tryz.ntmps51 rfl ?_
  intro w0 F
  repeat' (first | with_reducible (first | refine go1 ?_ | refine sct ?_ | refine scf ?_ | refine sgr ?_) | fail)
  refine sq_ret1 Tryz.results51 ?_
  exact ⟨_, ⟨rfl, rfl⟩, Ent.refl _⟩
theorem dNone_ok (p : Nat) (s : Dk) : Spec Tryz.prog 51 [.pointer (some ⟨p, 0, none⟩)] [p] [DISK p s] fun F v Rs' => v = .bool false ∧ Rs' = (p, DISK p s) :: F := by
  refine spec_of Tryz.func51 rfl Tryz.ntmps51 rfl ?_
  intro w0 F
  refine DISK.sc (p := p) (s := s) fun x hx => ?_
  unfold DISKl
  repeat' (first | with_reducible (first | refine go1 ?_ | refine sct ?_ | refine scf ?_ | refine sgr ?_) | fail)
  refine sq_ret1 Tryz.results51 ?_
  refine ⟨_, ⟨rfl, rfl⟩, Ent.trans (B := DISKl p s x F) ?_ (DISK.close hx)⟩
  unfold DISKl
  repeat' (first | with_reducible exact Ent.refl _ | with_reducible refine Ent.take_eq ?_ ?_ | rfl | with_reducible refine Ent.trans (Ent.drop _ _) ?_)

/-- what is wrong ahead of a call -/
def Dk.looks (s : Dk) (at' : Int) : Int := if s.down then 6 else if at' < 0 ∨ (s.sure.length : Int) ≤ at' then 20 else 0

theorem dLooks_ok (p : Nat) (s : Dk) (a : Int) : Spec Tryz.prog 80 [.pointer (some ⟨p, 0, none⟩), .int .i64 a] [p] [DISK p s] fun F v Rs' => v = .int .i64 (s.looks a) ∧ Rs' = (p, DISK p s) :: F := by
  refine spec_of Tryz.func80 rfl Tryz.ntmps80 rfl ?_
  intro w0 F
  refine DISK.sc (p := p) (s := s) fun x hx => ?_
  unfold DISKl
  repeat' (first | with_reducible (first | refine go1 ?_ | refine sct ?_ | refine scf ?_ | refine sgr ?_) | ((with_reducible refine sw_call (dNone_raw _ _ _ _ _ _ _ _ _) ?_); rintro _ _ ⟨rfl, rfl⟩) | (with_reducible refine sc_cond (fun h => ?_) (fun h => ?_)) <;> (try (exfalso; first | contradiction | omega | exact h Iff.rfl)) | (with_reducible refine sw_guard_split (fun h => ?_) (fun h => ?_)) <;> (try (exfalso; first | contradiction | omega | exact h Iff.rfl)) | (with_reducible refine sw_pick (fun h => ?_) (fun h => ?_)) <;> (try (exfalso; first | contradiction | omega | exact h Iff.rfl)) | fail)
  all_goals
    refine sq_ret1 Tryz.results80 ?_
    refine ⟨_, ⟨?_, rfl⟩, Ent.trans (B := DISKl p s x F) ?_ (DISK.close hx)⟩
    · have hl := hx.len
      unfold Dk.looks
      first
        | (rw [if_pos (by assumption)]; done)
        | (rw [if_neg (by assumption), if_pos (by omega)]; done)
        | (rw [if_neg (by assumption), if_neg (by omega)]; done)
    · unfold DISKl
      repeat' (first | with_reducible exact Ent.refl _ | with_reducible refine Ent.take_eq ?_ ?_ | rfl | with_reducible refine Ent.trans (Ent.drop _ _) ?_)

theorem dSectors_ok (p : Nat) (s : Dk) : Spec Tryz.prog 23 [.pointer (some ⟨p, 0, none⟩)] [p] [DISK p s] fun F v Rs' => v = .int .i64 s.sure.length ∧ Rs' = (p, DISK p s) :: F := by
  refine spec_of Tryz.func23 rfl Tryz.ntmps23 rfl ?_
  intro w0 F
  refine DISK.sc (p := p) (s := s) fun x hx => ?_
  unfold DISKl
  repeat' (first | with_reducible (first | refine go1 ?_ | refine sct ?_ | refine scf ?_ | refine sgr ?_) | ((with_reducible refine sw_call (dNone_raw _ _ _ _ _ _ _ _ _) ?_); rintro _ _ ⟨rfl, rfl⟩) | (with_reducible refine sc_cond (fun h => ?_) (fun h => ?_)) <;> (try (exfalso; first | contradiction | omega | exact h Iff.rfl)) | (with_reducible refine sw_guard_split (fun h => ?_) (fun h => ?_)) <;> (try (exfalso; first | contradiction | omega | exact h Iff.rfl)) | (with_reducible refine sw_pick (fun h => ?_) (fun h => ?_)) <;> (try (exfalso; first | contradiction | omega | exact h Iff.rfl)) | fail)
  refine sq_ret1 Tryz.results23 ?_
  refine ⟨_, ⟨by rw [hx.len], rfl⟩, Ent.trans (B := DISKl p s x F) ?_ (DISK.close hx)⟩
  unfold DISKl
  repeat' (first | with_reducible exact Ent.refl _ | with_reducible refine Ent.take_eq ?_ ?_ | rfl | with_reducible refine Ent.trans (Ent.drop _ _) ?_)

theorem Dk.up_wf {s : Dk} (h : s.Wf) : ({ s with down := false } : Dk).Wf := ⟨h.n1, h.n2, h.sec, h.dsec, h.dat, h.f1, h.f2, h.k1⟩

/-- a call counted -/
def Dk.met (s : Dk) : Dk := { s with calls := IntKind.i64.wrap (s.calls + 1), fuse := if s.fuse = 0 then 0 else s.fuse - 1 }
theorem Dk.met_wf {s : Dk} (h : s.Wf) : s.met.Wf := ⟨h.n1, h.n2, h.sec, h.dsec, h.dat, by have := h.f1; unfold Dk.met; simp only; split <;> omega, by have := h.f2; unfold Dk.met; simp only; split <;> omega, h.k1⟩

theorem dMeets_ok (p : Nat) (s : Dk) : Spec Tryz.prog 81 [.pointer (some ⟨p, 0, none⟩)] [p] [DISK p s] fun F v Rs' => v = .bool (decide (s.fuse = 1)) ∧ Rs' = (p, DISK p s.met) :: F := by
  refine spec_of Tryz.func81 rfl Tryz.ntmps81 rfl ?_
  intro w0 F
  refine DISK.sc (p := p) (s := s) fun x hx => ?_
  have h1 := hx.wf.f1
  have h2 := hx.wf.f2
  unfold DISKl
  repeat' (first | with_reducible refine sw_i64 (by omega) ?_ | with_reducible (first | refine go1 ?_ | refine sct ?_ | refine scf ?_ | refine sgr ?_) | with_reducible refine sw_store ?_ | (with_reducible refine sc_cond (fun h => ?_) (fun h => ?_)) <;> (try (exfalso; first | contradiction | omega | exact h Iff.rfl)) | (with_reducible refine sw_guard_split (fun h => ?_) (fun h => ?_)) <;> (try (exfalso; first | contradiction | omega | exact h Iff.rfl)) | (with_reducible refine sw_pick (fun h => ?_) (fun h => ?_)) <;> (try (exfalso; first | contradiction | omega | exact h Iff.rfl)) | fail)
  · refine sq_ret1 Tryz.results81 ?_
    refine ⟨_, ⟨by simp [h], rfl⟩, Ent.trans (B := DISKl p s.met x F) ?_ (DISK.close ⟨Dk.met_wf hx.wf, hx.len, hx.dom, hx.one⟩)⟩
    unfold DISKl Dk.met
    rw [if_pos h, ← h]
    repeat' (first | with_reducible exact Ent.refl _ | with_reducible refine Ent.take_eq ?_ ?_ | rfl | with_reducible refine Ent.trans (Ent.drop _ _) ?_)
  · refine sq_ret1 Tryz.results81 ?_
    refine ⟨_, ⟨by congr 1; simp; omega, rfl⟩, Ent.trans (B := DISKl p s.met x F) ?_ (DISK.close ⟨Dk.met_wf hx.wf, hx.len, hx.dom, hx.one⟩)⟩
    unfold DISKl Dk.met
    rw [if_neg h]
    repeat' (first | with_reducible exact Ent.refl _ | with_reducible refine Ent.take_eq ?_ ?_ | rfl | with_reducible refine Ent.trans (Ent.drop _ _) ?_)

/-! ### reading -/
/-- what a sector has -/
def Dk.now (s : Dk) (i : Int) : List Int := (s.dirty i).getD ((s.sure[i.toNat]?).getD [])

theorem Sec.fp {v : Value} {xs : List Int} {h : Hp} (hs : Sec v xs h) : Sec v xs (fpart h) := by
  obtain ⟨c, r, hv, hi⟩ := hs
  exact ⟨c, r, hv, imm_fpart hi⟩
theorem DPers.now1 {x : DX} {s : Dk} {a : Int} {v : Value} {h : Hp} (hp : DPers x.vs x.f x.kv s h) (hv : x.f a = some v) : Sec v (s.now a) h := by
  obtain ⟨h1, h2⟩ := hp.2.1 a
  rw [hv] at h1
  cases hd : s.dirty a with
  | none => rw [hd] at h1; cases h1
  | some xs =>
    have := h2 v xs hv hd
    unfold Dk.now; rw [hd]; exact this
theorem DPers.now2 {x : DX} {s : Dk} {a : Int} {v : Value} {h : Hp} (hp : DPers x.vs x.f x.kv s h) (hf : x.f a = none) (hv : x.vs[a.toNat]? = some v) (hl : x.vs.length = s.sure.length) : Sec v (s.now a) h := by
  obtain ⟨h1, h2⟩ := hp.2.1 a
  rw [hf] at h1
  cases hd : s.dirty a with
  | some xs => rw [hd] at h1; cases h1
  | none =>
    unfold Dk.now; rw [hd]
    have hlt := (List.getElem?_eq_some_iff.1 hv).1
    have : s.sure[a.toNat]? = some (s.sure[a.toNat]'(by omega)) := List.getElem?_eq_getElem _
    rw [this]
    exact hp.1 a.toNat v _ hv this

theorem dNow_ok (p : Nat) (s : Dk) (a : Int) (h0 : 0 ≤ a) (h1 : a < s.sure.length) : Spec Tryz.prog 106 [.pointer (some ⟨p, 0, none⟩), .int .i64 a] [p] [DISK p s]
    fun F v Rs' => ∃ q, Rs' = (q, Sec v (s.now a)) :: (p, DISK p s) :: F := by
  refine spec_of Tryz.func106 rfl Tryz.ntmps106 rfl ?_
  intro w0 F
  refine DISK.sc (p := p) (s := s) fun x hx => ?_
  unfold DISKl
  repeat' (first | with_reducible (first | refine go1 ?_ | refine sct ?_ | refine scf ?_ | refine sgr ?_) | with_reducible refine sw_idx a.toNat (by have := hx.len; omega) ?_ | (with_reducible refine sc_cond (fun h => ?_) (fun h => ?_)) <;> (try (exfalso; first | contradiction | omega | exact h Iff.rfl)) | (with_reducible refine sw_guard_split (fun h => ?_) (fun h => ?_)) <;> (try (exfalso; first | contradiction | omega | exact h Iff.rfl)) | (with_reducible refine sw_pick (fun h => ?_) (fun h => ?_)) <;> (try (exfalso; first | contradiction | omega | exact h Iff.rfl)) | fail)
  · obtain ⟨v, hv⟩ := Option.isSome_iff_exists.1 h
    rw [hv]
    refine sq_ret1 Tryz.results106 ?_
    refine ⟨_, ⟨x.q, rfl⟩, ?_⟩
    refine Ent.trans (Ent.dup_take (k := x.q) (k' := x.q) (r' := Sec v (s.now a)) fun _ hp => (DPers.now1 hp hv).fp) (Ent.cons _ ?_)
    refine Ent.trans (B := DISKl p s x F) ?_ (DISK.close hx)
    unfold DISKl
    repeat' (first | with_reducible exact Ent.refl _ | with_reducible refine Ent.take_eq ?_ ?_ | rfl | with_reducible refine Ent.trans (Ent.drop _ _) ?_)
  · have hf : x.f a = none := by cases hq : x.f a with
      | none => rfl
      | some v => rw [hq] at h; exact absurd rfl h
    have hlt : a.toNat < x.vs.length := by have := hx.len; omega
    refine sw_loadAt x.vs[a.toNat] (by rw [List.getElem?_append_left hlt]; exact List.getElem?_eq_getElem _) ?_
    repeat' (first | with_reducible (first | refine go1 ?_ | refine sct ?_ | refine scf ?_ | refine sgr ?_) | fail)
    refine sq_ret1 Tryz.results106 ?_
    refine ⟨_, ⟨x.q, rfl⟩, ?_⟩
    refine Ent.trans (Ent.dup_take (k := x.q) (k' := x.q) (r' := Sec x.vs[a.toNat] (s.now a)) fun _ hp => (DPers.now2 hp hf (List.getElem?_eq_getElem _) hx.len).fp) (Ent.cons _ ?_)
    refine Ent.trans (B := DISKl p s x F) ?_ (DISK.close hx)
    unfold DISKl
    repeat' (first | with_reducible exact Ent.refl _ | with_reducible refine Ent.take_eq ?_ ?_ | rfl | with_reducible refine Ent.trans (Ent.drop _ _) ?_)

theorem Dk.now_wf {s : Dk} (h : s.Wf) {a : Int} (h0 : 0 ≤ a) (h1 : a < s.sure.length) : SecWf (s.now a) := by
  unfold Dk.now
  cases hd : s.dirty a with
  | some xs => exact h.dsec a xs hd
  | none =>
    have : s.sure[a.toNat]? = some (s.sure[a.toNat]'(by omega)) := List.getElem?_eq_getElem _
    rw [this]
    exact h.sec _ (List.getElem_mem _)

/-- a sector is read -/
theorem Sec.reads {v : Value} {xs : List Int} {q : Nat} {w0 w : World} {F : List Res} (hw : Sat w0 w ((q, Sec v xs) :: F)) : ∃ b r, v = .slice (some ⟨b, 0, none⟩) xs.length (xs.length + r) ∧ ∀ j u, (xs.map (Value.int .u8))[j]? = some u → w.cell? (Addr.add ⟨b, 0, none⟩ j) = some u := by
  obtain ⟨⟨b, r⟩, hv, h1⟩ := hw.opn (α := Nat × List Value) (φ := fun a => v = .slice (some ⟨a.1, 0, none⟩) xs.length (xs.length + a.2.length)) (p := fun a => imm a.1 (.cells (xs.map (Value.int .u8) ++ a.2).toArray 5 (0, 0))) (by rintro y ⟨b, r, hv, hi⟩; exact ⟨(b, r), hv, hi⟩)
  refine ⟨b, r.length, hv, fun j u hj => cell_row (h1.get_imm (Take.here _ _ _)) ?_⟩
  rw [Nat.zero_add, List.getElem?_append_left (by simpa using (List.getElem?_eq_some_iff.1 hj).1)]
  exact hj

theorem dRead_bad (p : Nat) (s : Dk) (a : Int) (hb : s.looks a ≠ 0) : Spec Tryz.prog 83 [.pointer (some ⟨p, 0, none⟩), .int .i64 a] [p] [DISK p s]
    fun F v Rs' => v = .tuple #[.slice none 0 0, .int .i64 (s.looks a)] ∧ Rs' = (p, DISK p s) :: F := by
  refine spec_of Tryz.func83 rfl Tryz.ntmps83 rfl ?_
  intro w0 F
  repeat' (first | with_reducible (first | refine go1 ?_ | refine sct ?_ | refine scf ?_ | refine sgr ?_) | ((with_reducible refine sw_call (dLooks_ok p s a) ?_); rintro _ _ ⟨rfl, rfl⟩) | (with_reducible refine sc_cond (fun h => ?_) (fun h => ?_)) <;> (try (exfalso; first | contradiction | omega | exact h Iff.rfl)) | (with_reducible refine sw_guard_split (fun h => ?_) (fun h => ?_)) <;> (try (exfalso; first | contradiction | omega | exact h Iff.rfl)) | (with_reducible refine sw_pick (fun h => ?_) (fun h => ?_)) <;> (try (exfalso; first | contradiction | omega | exact h Iff.rfl)) | fail)
  refine sq_ret2 Tryz.results83 ?_
  refine ⟨_, ⟨rfl, rfl⟩, ?_⟩
  repeat' (first | with_reducible exact Ent.refl _ | with_reducible refine Ent.take_eq ?_ ?_ | rfl | with_reducible refine Ent.trans (Ent.drop _ _) ?_)

theorem dRead_ok (p : Nat) (s : Dk) (a : Int) (hb : s.looks a = 0) : Spec Tryz.prog 83 [.pointer (some ⟨p, 0, none⟩), .int .i64 a] [p] [DISK p s]
    fun F v Rs' => ∃ b, v = .tuple #[.slice (some ⟨b, 0, none⟩) 512 512, .int .i64 0] ∧ Rs' = (b, pts b (.cells ((s.now a).map (Value.int .u8)).toArray 5 (0, 0))) :: (p, DISK p s) :: F := by
  refine spec_of Tryz.func83 rfl Tryz.ntmps83 rfl ?_
  intro w0 F
  repeat' (first | with_reducible (first | refine go1 ?_ | refine sct ?_ | refine scf ?_ | refine sgr ?_) | ((with_reducible refine sw_call (dLooks_ok p s a) ?_); rintro _ _ ⟨rfl, rfl⟩) | with_reducible refine sw_makeSlice 512 512 ⟨rfl, rfl, by omega, by omega, by omega⟩ fun b => ?_ | (with_reducible refine sc_cond (fun h => ?_) (fun h => ?_)) <;> (try (exfalso; first | contradiction | omega | exact h Iff.rfl)) | (with_reducible refine sw_guard_split (fun h => ?_) (fun h => ?_)) <;> (try (exfalso; first | contradiction | omega | exact h Iff.rfl)) | (with_reducible refine sw_pick (fun h => ?_) (fun h => ?_)) <;> (try (exfalso; first | contradiction | omega | exact h Iff.rfl)) | fail)
  have hin : 0 ≤ a ∧ a < s.sure.length := by
    unfold Dk.looks at hb
    split at hb
    · cases hb
    · split at hb
      · cases hb
      · omega
  refine DISK.scwf' (p := p) (s := s) fun hwf => ?_
  have hs := Dk.now_wf hwf hin.1 hin.2
  repeat' (first | with_reducible (first | refine go1 ?_ | refine sct ?_ | refine scf ?_ | refine sgr ?_) | ((with_reducible refine sw_call (dNow_ok p s a hin.1 hin.2) ?_); rintro v _ ⟨q, rfl⟩) | fail)
  refine sw_opn (k := q) (φ := fun c : Nat × List Value => v = .slice (some ⟨c.1, 0, none⟩) (s.now a).length ((s.now a).length + c.2.length)) (p := fun c => imm c.1 (.cells ((s.now a).map (Value.int .u8) ++ c.2).toArray 5 (0, 0))) (by rintro y ⟨b, r, hv, hi⟩; exact ⟨(b, r), hv, hi⟩) ?_
  rintro ⟨b2, r2⟩ rfl
  simp only
  rw [hs.len]
  refine sw_copy ((s.now a).map (Value.int .u8)) ?_ ?_ ?_ ?_
  · exact src_imm q
  · exact one_ints _ _
  · rw [List.length_map, hs.len, List.length_replicate]; omega
  repeat' (first | with_reducible (first | refine go1 ?_ | refine sct ?_ | refine scf ?_ | refine sgr ?_) | fail)
  refine sq_ret2 Tryz.results83 ?_
  refine ⟨_, ⟨b, rfl, rfl⟩, ?_⟩
  have e1 : List.take 0 (List.replicate 512 (Value.int .u8 0)) ++ (s.now a).map (Value.int .u8) ++ List.drop (0 + ((s.now a).map (Value.int .u8)).length) (List.replicate 512 (Value.int .u8 0)) = (s.now a).map (Value.int .u8) := by
    rw [List.drop_eq_nil_of_le (by rw [List.length_map, hs.len, List.length_replicate]; omega), List.take_zero, List.nil_append, List.append_nil]
  rw [e1]
  repeat' (first | with_reducible exact Ent.refl _ | with_reducible refine Ent.take_eq ?_ ?_ | rfl | with_reducible refine Ent.trans (Ent.drop _ _) ?_)
end Go.Gsl

namespace Go.Gsl
set_option linter.unusedVariables false
open Go.Proofs

/-- slices.Clone -/
theorem clB_ok (k : Nat) (r : HProp) (a : Option Addr) (m c : Nat) (src : List Value) (hr : Reads r a src) (h1 : ∀ v ∈ src, v.oneCell' = true) (hl : src.length = m) (hm : m ≤ 140737488355328) :
    Spec Tryz.prog 46 [.slice a m c] [k] [r] fun F v Rs' => (a = none ∧ v = .slice none 0 0 ∧ Rs' = (k, r) :: F) ∨
      (a ≠ none ∧ ∃ b t, v = .slice (some ⟨b, 0, none⟩) m (m + t.length) ∧ Rs' = (b, pts b (.cells (src ++ t).toArray 5 (0, 0))) :: (k, r) :: F) := by
  refine spec_of Tryz.func46 rfl Tryz.ntmps46 rfl ?_
  intro w0 F
  repeat' (first | with_reducible (first | refine go1 ?_ | refine sct ?_ | refine scf ?_ | refine sgr ?_) | (with_reducible refine sc_cond (fun h => ?_) (fun h => ?_)) <;> (try (exfalso; first | contradiction | omega | exact h Iff.rfl)) | fail)
  · refine sq_ret1 Tryz.results46 ?_
    exact ⟨_, .inl ⟨by simpa using h, rfl, rfl⟩, Ent.refl _⟩
  · refine sw_buildSlice [] (by omega) rfl fun b0 => ?_
    repeat' (first | with_reducible (first | refine go1 ?_ | refine sct ?_ | refine scf ?_ | refine sgr ?_) | fail)
    refine sw_append (src := src) ?_ h1 ?_ fun b t => ?_
    · exact fun w hw => hr.sat (k := k) hw
    · exact ⟨by omega, rfl, hl, by omega, by omega⟩
    simp only [Nat.zero_add, List.take_nil, List.nil_append]
    repeat' (first | with_reducible (first | refine go1 ?_ | refine sct ?_ | refine scf ?_ | refine sgr ?_) | fail)
    refine sq_ret1 Tryz.results46 ?_
    exact ⟨_, .inr ⟨by simpa using h, b, t, rfl, rfl⟩, Ent.refl _⟩
/-- a sector that begins with a byte, all the rest being another one -/
def secOf (a b : Int) : List Int := a :: List.replicate 511 b
theorem secOf_wf {a b : Int} (ha : 0 ≤ a ∧ a ≤ 255) (hb : 0 ≤ b ∧ b ≤ 255) : SecWf (secOf a b) :=
  ⟨by unfold secOf; rw [List.length_cons, List.length_replicate], fun x hx => by
    unfold secOf at hx
    rcases List.mem_cons.1 hx with rfl | hx
    · exact ha
    · rw [List.eq_of_mem_replicate hx]; exact hb⟩

theorem Sec.left {v : Value} {xs : List Int} {x y : Hp} (h : Sec v xs x) : Sec v xs (hjoin x y) := by
  obtain ⟨b, r, hv, hi⟩ := h
  exact ⟨b, r, hv, imm_left hi⟩
theorem Sec.right {v : Value} {xs : List Int} {x y : Hp} (hd : hdisj x y) (h : Sec v xs y) : Sec v xs (hjoin x y) := by
  rw [hjoin_comm hd]; exact h.left
theorem Secs.left {vs : List Value} {ss : List (List Int)} {x y : Hp} (h : Secs vs ss x) : Secs vs ss (hjoin x y) := fun i v xs h1 h2 => (h i v xs h1 h2).left
theorem DirtyS.left {f : Int → Option Value} {g : Int → Option (List Int)} {x y : Hp} (h : DirtyS f g x) : DirtyS f g (hjoin x y) := fun j => ⟨(h j).1, fun v xs h1 h2 => ((h j).2 v xs h1 h2).left⟩
theorem BoolsI.left {v : Value} {bs : List Bool} {x y : Hp} (h : BoolsI v bs x) : BoolsI v bs (hjoin x y) := by
  rcases h with h | ⟨b, r, hv, hi⟩
  · exact .inl h
  · exact .inr ⟨b, r, hv, imm_left hi⟩
end Go.Gsl
