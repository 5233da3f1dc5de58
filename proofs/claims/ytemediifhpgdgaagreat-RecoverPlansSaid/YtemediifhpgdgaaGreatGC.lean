/- The codec: ints. -/
import Derived.Test.YtemediifhpgdgaaGreatGI
import Derived.Test.YtemediifhpgdgaaGreatGB
import Derived.Test.YtemediifhpgdgaaGreatGD
namespace Go.Gsl
set_option linter.unusedVariables false
open Go.Proofs

/-- how many bytes a number from 0 on needs -/
def bo (n : Int) : Nat := if n < 256 then 1 else if n < 65536 then 2 else if n < 16777216 then 3 else if n < 4294967296 then 4 else if n < 1099511627776 then 5 else if n < 281474976710656 then 6 else if n < 72057594037927936 then 7 else 8
theorem bo_step {n : Int} (h : 255 < n ∧ n ≤ 9223372036854775807) : bo n = bo (n / 256) + 1 := by
  unfold bo
  repeat' split
  all_goals omega
theorem bo_small {n : Int} (h : n ≤ 255) : bo n = 1 := by unfold bo; rw [if_pos (by omega)]
theorem bo_in (n : Int) : 1 ≤ bo n ∧ bo n ≤ 8 := by
  unfold bo
  repeat' split
  all_goals omega

theorem cBytesOf_ok (n : Int) (h : 0 ≤ n ∧ n ≤ 9223372036854775807) : Spec Tryz.prog 119 [.int .i64 n] [] [] fun F v Rs' => v = .int .i64 (bo n) ∧ Rs' = F := by
  refine spec_of Tryz.func119 rfl Tryz.ntmps119 rfl ?_
  intro w0 F
  repeat' (first | with_reducible (first | refine go1 ?_ | refine sct ?_ | refine scf ?_ | refine sgr ?_) | fail)
  refine sc_loop (α := { x : Int × Nat // 0 ≤ x.1 ∧ x.1 ≤ 9223372036854775807 ∧ 1 ≤ x.2 ∧ bo x.1 + x.2 = bo n + 1 }) (fun x => [(0, .int .i64 x.1.1), (3, .int .i64 x.1.2)]) (fun _ => F) (fun x => x.1.1.toNat) ⟨(n, 1), h.1, h.2, Nat.le_refl _, rfl⟩ ?_ ?_ ?_
  · repeat' (first | exact says_nil | refine says_cons rfl ?_ | refine says_cons (by simp) ?_)
  · exact Ent.refl _
  rintro ⟨⟨m, k⟩, hm0, hm1, hk, hb⟩ e
  simp only at hm0 hm1 hk hb
  simp only [List.cons_append, List.nil_append]
  have hb1 := bo_in m
  have hb2 := bo_in n
  repeat' (first | with_reducible refine sw_in (by omega) ?_ | with_reducible (first | refine go1 ?_ | refine sct ?_ | refine scf ?_ | refine sgr ?_) | (with_reducible refine sc_cond (fun h => ?_) (fun h => ?_)) <;> (try (exfalso; first | contradiction | omega | exact h Iff.rfl)) | fail)
  focus
    refine sw_shrP (k := .i64) 8 256 ⟨rfl, by decide, by omega, rfl⟩ ?_
    repeat' (first | with_reducible refine sw_in (by omega) ?_ | with_reducible (first | refine go1 ?_ | refine sct ?_ | refine scf ?_ | refine sgr ?_) | (with_reducible refine sc_cond (fun h => ?_) (fun h => ?_)) <;> (try (exfalso; first | contradiction | omega | exact h Iff.rfl)) | fail)
    have hs := bo_step (n := m) (by omega)
    refine sq_round ⟨(m / 256, k + 1), by omega, by omega, by omega, by simp only; omega⟩ ?_ ?_ ?_
    · show (m / 256).toNat < m.toNat
      omega
    · repeat' (first | exact says_nil | refine says_cons rfl ?_ | refine says_cons (by simp) ?_)
    · exact Ent.refl _
  have hbm := bo_small (n := m) (by omega)
  refine sq_ret1 Tryz.results119 ?_
  exact ⟨_, ⟨by congr 1; omega, rfl⟩, Ent.refl _⟩

/-- how many bytes an int has -/
def width (n : Int) : Nat := if 100 < n then 1 + bo n else if n < -100 then 1 + bo (-n - 1) else 1
theorem cWidth_ok (n : Int) (h : -9223372036854775808 ≤ n ∧ n ≤ 9223372036854775807) : Spec Tryz.prog 104 [.int .i64 n] [] [] fun F v Rs' => v = .int .i64 (width n) ∧ Rs' = F := by
  refine spec_of Tryz.func104 rfl Tryz.ntmps104 rfl ?_
  intro w0 F
  have hb1 := bo_in n
  have hb2 := bo_in (-n - 1)
  unfold width
  repeat' (first | with_reducible refine sw_in (by omega) ?_ | with_reducible (first | refine go1 ?_ | refine sct ?_ | refine scf ?_ | refine sgr ?_) | (with_reducible refine sc_cond (fun h => ?_) (fun h => ?_)) <;> (try (exfalso; first | contradiction | omega | exact h Iff.rfl)) | (with_reducible refine sw_guard_split (fun h => ?_) (fun h => ?_)) <;> (try (exfalso; first | contradiction | omega | exact h Iff.rfl)) | (with_reducible refine sw_pick (fun h => ?_) (fun h => ?_)) <;> (try (exfalso; first | contradiction | omega | exact h Iff.rfl)) | fail)
  · refine sw_call (cBytesOf_ok n (by omega)) ?_
    rintro _ _ ⟨rfl, rfl⟩
    repeat' (first | with_reducible refine sw_in (by omega) ?_ | with_reducible (first | refine go1 ?_ | refine sct ?_ | refine scf ?_ | refine sgr ?_) | (with_reducible refine sc_cond (fun h => ?_) (fun h => ?_)) <;> (try (exfalso; first | contradiction | omega | exact h Iff.rfl)) | fail)
    refine sq_ret1 Tryz.results104 ?_
    exact ⟨_, ⟨by rw [if_pos (by omega)]; congr 1, rfl⟩, Ent.refl _⟩
  · refine sw_cpl (by omega) ?_
    repeat' (first | with_reducible (first | refine go1 ?_ | refine sct ?_ | refine scf ?_ | refine sgr ?_) | fail)
    refine sw_call (cBytesOf_ok (-n - 1) (by omega)) ?_
    rintro _ _ ⟨rfl, rfl⟩
    repeat' (first | with_reducible refine sw_in (by omega) ?_ | with_reducible (first | refine go1 ?_ | refine sct ?_ | refine scf ?_ | refine sgr ?_) | (with_reducible refine sc_cond (fun h => ?_) (fun h => ?_)) <;> (try (exfalso; first | contradiction | omega | exact h Iff.rfl)) | fail)
    refine sq_ret1 Tryz.results104 ?_
    exact ⟨_, ⟨by rw [if_neg (by omega), if_pos (by omega)]; congr 1, rfl⟩, Ent.refl _⟩
  · refine sq_ret1 Tryz.results104 ?_
    exact ⟨_, ⟨by rw [if_neg (by omega), if_neg (by omega)]; rfl, rfl⟩, Ent.refl _⟩

/-- the bytes of a number, the highest one first -/
def beB (k : Nat) (n : Int) : List Int := (List.range k).map fun i => n / 256 ^ (k - 1 - i) % 256
theorem beB_len (k : Nat) (n : Int) : (beB k n).length = k := by unfold beB; simp
/-- an int's bytes -/
def intB (n : Int) : List Int :=
  if width n = 1 then [n + 108] else if n < 0 then (9 - width n : Int) :: (beB (width n - 1) (-n - 1)).map (255 - ·) else (207 + width n : Int) :: beB (width n - 1) n
theorem width_in (n : Int) : 1 ≤ width n ∧ width n ≤ 9 := by
  have h1 := bo_in n
  have h2 := bo_in (-n - 1)
  unfold width
  repeat' split
  all_goals omega
theorem width_one {n : Int} (h : width n = 1) : -100 ≤ n ∧ n ≤ 100 := by
  have h1 := bo_in n
  have h2 := bo_in (-n - 1)
  unfold width at h
  split at h
  · omega
  · split at h <;> omega
theorem beB_byt (k : Nat) (n : Int) : Byt (beB k n) := by
  intro x hx
  unfold beB at hx
  obtain ⟨i, _, rfl⟩ := List.mem_map.1 hx
  omega
theorem intB_byt (n : Int) : Byt (intB n) := by
  have hw := width_in n
  unfold intB
  split
  · rename_i h
    have := width_one h
    intro x hx
    rw [List.mem_singleton.1 hx]; omega
  · split
    · intro x hx
      rcases List.mem_cons.1 hx with rfl | hx
      · omega
      · obtain ⟨y, hy, rfl⟩ := List.mem_map.1 hx
        have := beB_byt _ _ y hy
        omega
    · intro x hx
      rcases List.mem_cons.1 hx with rfl | hx
      · omega
      · exact beB_byt _ _ x hx
theorem intB_len (n : Int) : (intB n).length = width n := by
  have hw := width_in n
  unfold intB
  split
  · simp; omega
  · split <;> simp [beB_len] <;> omega

/-- slices.Clip -/
theorem clipB_ok (k : Nat) (r : HProp) (v : Value) (bs : List Int) (h : RdB r v bs) : Spec Tryz.prog 103 [v] [k] [r] fun F w Rs' => ((w = .slice none 0 0 ∧ bs = []) ∨ ∃ b o, w = .slice (some ⟨b, o, none⟩) bs.length bs.length ∧ Reads r (some ⟨b, o, none⟩) (bs.map (Value.int .u8))) ∧ Rs' = (k, r) :: F := by
  refine spec_of Tryz.func103 rfl Tryz.ntmps103 rfl ?_
  intro w0 F
  cases h with
  | nil =>
    repeat' (first | with_reducible (first | refine go1 ?_ | refine sct ?_ | refine scf ?_ | refine sgr ?_) | fail)
    refine sw_slice_nil (by omega) ⟨rfl, rfl, rfl⟩ ?_
    repeat' (first | with_reducible (first | refine go1 ?_ | refine sct ?_ | refine scf ?_ | refine sgr ?_) | fail)
    refine sq_ret1 Tryz.results103 ?_
    exact ⟨_, ⟨.inl ⟨rfl, rfl⟩, rfl⟩, Ent.refl _⟩
  | row b o c bs hc hr =>
    repeat' (first | with_reducible (first | refine go1 ?_ | refine sct ?_ | refine scf ?_ | refine sgr ?_) | fail)
    refine sw_slice 0 bs.length bs.length o (by omega) ⟨rfl, rfl, rfl, by split <;> rfl⟩ ?_
    repeat' (first | with_reducible (first | refine go1 ?_ | refine sct ?_ | refine scf ?_ | refine sgr ?_) | fail)
    refine sq_ret1 Tryz.results103 ?_
    exact ⟨_, ⟨.inr ⟨b, o, rfl, hr⟩, rfl⟩, Ent.refl _⟩
end Go.Gsl

namespace Go.Gsl
set_option linter.unusedVariables false
open Go.Proofs

/-- what Clip answers -/
def Clipped (r : HProp) (w : Value) (bs : List Int) : Prop := (w = .slice none 0 0 ∧ bs = []) ∨ ∃ b o, w = .slice (some ⟨b, o, none⟩) bs.length bs.length ∧ Reads r (some ⟨b, o, none⟩) (bs.map (Value.int .u8))
section
variable {P : Program} {ops : List Oper} {Q : Cont} {n : Nat} {w0 : World} {rest : List Oper} {e : Env} {Rs F : List Res} {ty : TypeId}
theorem sw_append_clip {d : Nat} {t el : TypeId} {nb : Nat} {x y : Operand} {z : Value} {m' c' b1 : Nat} {w : Value} {bs : List Int} {r : HProp} (k0 : Nat) (src : List Value) {pos : String} {after : Array Edge} (hcl : Clipped r w bs)
    [hx : Ev n e x w] [hy : Ev n e y (.slice (some ⟨b1, 0, none⟩) m' c')] [he : Elem P t el 1 nb z] [hz : One z] [tk : Take Rs k0 r F]
    (hsrc : ∀ w, Sat w0 w Rs → ∀ j v, src[j]? = some v → ∃ ad, some (⟨b1, 0, none⟩ : Addr) = some ad ∧ w.cell? (ad.add j) = some v)
    (h : 0 < m' ∧ src.length = m' ∧ bs.length + m' ≤ 9223372036854775807 ∧ (bs.length + m') * nb ≤ 140737488355328)
    (k : ∀ b' r, SW P ops Q n w0 rest ((d, .slice (some ⟨b', 0, none⟩) (bs.length + m') (bs.length + m' + r.length)) :: e) ((b', pts b' (.cells (bs.map (Value.int .u8) ++ src ++ r).toArray el (0, 0))) :: Rs)) :
    SW P ops Q n w0 ({ dst := some d, op := .call { callee := .builtin .append, args := [x, y].toArray, argTypes := [t, t].toArray }, type := ty, pos := pos, after := after, guard := none } :: rest) e Rs := by
  obtain ⟨h1, h2, h3, h4⟩ := h
  rcases hcl with ⟨rfl, rfl⟩ | ⟨b, o, rfl, hr⟩
  · exact sw_append_full (m := 0) (a := none) (cs := []) (src := src) (fun w hw j v hj => by simp at hj) (fun h => by omega) (fun _ => .inl rfl) hsrc ⟨h1, rfl, h2, by simpa using h3, by simpa using h4⟩ k
  · exact sw_append_full (cs := bs.map (Value.int .u8)) (src := src) (fun w hw => hr.sat (k := k0) hw) (fun _ => ⟨b, o, rfl⟩) (fun _ => .inr ⟨b, o, rfl⟩) hsrc ⟨h1, by rw [List.length_map], h2, h3, h4⟩ k
end

/-- what PutInt has put when 'j' bytes have come behind the head -/
def putS (bs : List Int) (h : Int) (g : Int → Int) (m : Int) (K j : Nat) : List Int := bs ++ h :: (List.range j).map fun i => g (m / 256 ^ (K - 1 - i) % 256)
theorem putS_len (bs : List Int) (h : Int) (g : Int → Int) (m : Int) (K j : Nat) : (putS bs h g m K j).length = bs.length + 1 + j := by
  unfold putS; simp; omega
theorem putS_zero (bs : List Int) (h : Int) (g : Int → Int) (m : Int) (K : Nat) : putS bs h g m K 0 = bs ++ [h] := rfl
theorem putS_succ (bs : List Int) (h : Int) (g : Int → Int) (m : Int) (K j : Nat) : putS bs h g m K (j + 1) = putS bs h g m K j ++ [g (m / 256 ^ (K - 1 - j) % 256)] := by
  unfold putS; rw [List.range_succ, List.map_append]; simp


set_option maxHeartbeats 1000000 in
theorem cPutInt_ok (k : Nat) (r : HProp) (v : Value) (bs : List Int) (n : Int) (h : RdB r v bs) (hl : bs.length ≤ 70368744177664) (hn : -9223372036854775808 ≤ n ∧ n ≤ 9223372036854775807) :
    Spec Tryz.prog 76 [v, .int .i64 n] [k] [r] fun F w Rs' => ∃ b t, w = .slice (some ⟨b, 0, none⟩) (bs ++ intB n).length ((bs ++ intB n).length + t.length) ∧ Rs' = (b, pts b (.cells ((bs ++ intB n).map (Value.int .u8) ++ t).toArray 5 (0, 0))) :: (k, r) :: F := by
  refine spec_of Tryz.func76 rfl Tryz.ntmps76 rfl ?_
  intro w0 F
  have hw := width_in n
  have hone := width_one (n := n)
  repeat' (first | with_reducible refine sw_in (by omega) ?_ | with_reducible (first | refine go1 ?_ | refine sct ?_ | refine scf ?_ | refine sgr ?_) | ((with_reducible refine sw_call (clipB_ok k r v bs h) ?_); rintro cv _ ⟨hcl, rfl⟩) | ((with_reducible refine sw_call (cWidth_ok n hn) ?_); rintro _ _ ⟨rfl, rfl⟩) | fail)
  replace hcl : Clipped r cv bs := hcl
  repeat' (first | with_reducible refine sw_in (by omega) ?_ | with_reducible (first | refine go1 ?_ | refine sct ?_ | refine scf ?_ | refine sgr ?_) | (with_reducible refine sc_cond (fun h => ?_) (fun h => ?_)) <;> (try (exfalso; first | contradiction | omega | exact h Iff.rfl)) | (with_reducible refine sw_guard_split (fun h => ?_) (fun h => ?_)) <;> (try (exfalso; first | contradiction | omega | exact h Iff.rfl)) | (with_reducible refine sw_pick (fun h => ?_) (fun h => ?_)) <;> (try (exfalso; first | contradiction | omega | exact h Iff.rfl)) | fail)
  · have h1 : width n = 1 := by omega
    have := hone h1
    repeat' (first | with_reducible refine sw_in (by omega) ?_ | with_reducible (first | refine go1 ?_ | refine sct ?_ | refine scf ?_ | refine sgr ?_) | (with_reducible refine sc_cond (fun h => ?_) (fun h => ?_)) <;> (try (exfalso; first | contradiction | omega | exact h Iff.rfl)) | (with_reducible refine sw_guard_split (fun h => ?_) (fun h => ?_)) <;> (try (exfalso; first | contradiction | omega | exact h Iff.rfl)) | (with_reducible refine sw_pick (fun h => ?_) (fun h => ?_)) <;> (try (exfalso; first | contradiction | omega | exact h Iff.rfl)) | fail)
    refine sw_buildSlice [.int .u8 (n + 108)] (by omega) rfl fun b1 => ?_
    refine sw_append_clip k [.int .u8 (n + 108)] hcl src_pts0 ⟨by simp, rfl, by simp; omega, by simp; omega⟩ fun b' t => ?_
    repeat' (first | with_reducible (first | refine go1 ?_ | refine sct ?_ | refine scf ?_ | refine sgr ?_) | fail)
    have hb : bs ++ intB n = bs ++ [n + 108] := by unfold intB; rw [if_pos h1]
    rw [hb]
    refine sq_ret1 Tryz.results76 ?_
    refine ⟨_, ⟨b', t, ?_, rfl⟩, ?_⟩
    · rw [List.length_append]; rfl
    · rw [List.map_append]
      repeat' (first | with_reducible exact Ent.refl _ | with_reducible refine Ent.take_eq ?_ ?_ | rfl | with_reducible refine Ent.trans (Ent.drop _ _) ?_)
  · have h1 : ¬ width n = 1 := by omega
    obtain ⟨K, hK⟩ : ∃ K : Nat, width n = K + 1 := ⟨width n - 1, by omega⟩
    refine sw_cpl (by omega) ?_
    repeat' (first | with_reducible refine sw_in (by omega) ?_ | with_reducible (first | refine go1 ?_ | refine sct ?_ | refine scf ?_ | refine sgr ?_) | (with_reducible refine sc_cond (fun h => ?_) (fun h => ?_)) <;> (try (exfalso; first | contradiction | omega | exact h Iff.rfl)) | (with_reducible refine sw_guard_split (fun h => ?_) (fun h => ?_)) <;> (try (exfalso; first | contradiction | omega | exact h Iff.rfl)) | (with_reducible refine sw_pick (fun h => ?_) (fun h => ?_)) <;> (try (exfalso; first | contradiction | omega | exact h Iff.rfl)) | fail)
    refine sw_buildSlice [.int .u8 (8 - ((width n : Int) - 1))] (by omega) rfl fun b1 => ?_
    refine sw_append_clip k [.int .u8 (8 - ((width n : Int) - 1))] hcl src_pts0 ⟨by simp, rfl, by simp; omega, by simp; omega⟩ fun b' t => ?_
    repeat' (first | with_reducible refine sw_in (by omega) ?_ | with_reducible (first | refine go1 ?_ | refine sct ?_ | refine scf ?_ | refine sgr ?_) | (with_reducible refine sc_cond (fun h => ?_) (fun h => ?_)) <;> (try (exfalso; first | contradiction | omega | exact h Iff.rfl)) | (with_reducible refine sw_guard_split (fun h => ?_) (fun h => ?_)) <;> (try (exfalso; first | contradiction | omega | exact h Iff.rfl)) | (with_reducible refine sw_pick (fun h => ?_) (fun h => ?_)) <;> (try (exfalso; first | contradiction | omega | exact h Iff.rfl)) | fail)
    refine sc_loop (α := { x : Nat × Nat × List Value // x.1 ≤ K }) (fun x => [(0, .slice (some ⟨x.1.2.1, 0, none⟩) (putS bs (8 - ((width n : Int) - 1)) (fun a => 255 - a) (-n - 1) K x.1.1).length ((putS bs (8 - ((width n : Int) - 1)) (fun a => 255 - a) (-n - 1) K x.1.1).length + x.1.2.2.length)), (1, .int .i64 (-n - 1)), (7, .int .u8 255), (8, .int .i64 (8 * ((K : Int) - 1) - 8 * (x.1.1 : Int)))])
      (fun x => (x.1.2.1, pts x.1.2.1 (.cells ((putS bs (8 - ((width n : Int) - 1)) (fun a => 255 - a) (-n - 1) K x.1.1).map (Value.int .u8) ++ x.1.2.2).toArray 5 (0, 0))) :: (k, r) :: F) (fun x => K - x.1.1) ⟨(0, b', t), Nat.zero_le _⟩ ?_ ?_ ?_
    · refine says_cons ?_ (says_cons rfl (says_cons rfl (says_cons ?_ says_nil)))
      · rw [putS_len]; try rfl
      · have hs0 : (8 * ((K : Int) - 1) - 8 * ((0 : Nat) : Int)) = 8 * ((width n : Int) - 1 - 1) := by omega
        dsimp only
        rw [hs0]; try rfl
    · show Ent _ ((b', pts b' (.cells ((putS bs (8 - ((width n : Int) - 1)) (fun a => 255 - a) (-n - 1) K 0).map (Value.int .u8) ++ t).toArray 5 (0, 0))) :: (k, r) :: F)
      rw [putS_zero, List.map_append]
      repeat' (first | with_reducible exact Ent.refl _ | with_reducible refine Ent.take_eq ?_ ?_ | rfl | with_reducible refine Ent.trans (Ent.drop _ _) ?_)
    rintro ⟨⟨j, b2, t2⟩, hj⟩ e
    simp only at hj
    simp only [List.cons_append, List.nil_append]
    have hSl := putS_len bs (8 - ((width n : Int) - 1)) (fun a => 255 - a) (-n - 1) K j
    repeat' (first | with_reducible refine sw_in (by omega) ?_ | with_reducible (first | refine go1 ?_ | refine sct ?_ | refine scf ?_ | refine sgr ?_) | (with_reducible refine sc_cond (fun h => ?_) (fun h => ?_)) <;> (try (exfalso; first | contradiction | omega | exact h Iff.rfl)) | fail)
    focus
      refine sw_shrP (k := .i64) (8 * (K - 1 - j)) (256 ^ (K - 1 - j)) ⟨by omega, by show _ ≤ 64; omega, by omega, pow256 _⟩ ?_
      repeat' (first | with_reducible (first | refine go1 ?_ | refine sct ?_ | refine scf ?_ | refine sgr ?_) | fail)
      rw [wrap_u8_mod, ixor_u8_255 (a := (-n - 1) / 256 ^ (K - 1 - j) % 256) (by omega)]
      refine sw_buildSlice [.int .u8 ((fun a => 255 - a) ((-n - 1) / 256 ^ (K - 1 - j) % 256))] (by omega) rfl fun b3 => ?_
      refine sw_append (src := [Value.int .u8 ((fun a => 255 - a) ((-n - 1) / 256 ^ (K - 1 - j) % 256))]) src_pts0 (by simp [Value.oneCell']) ⟨by omega, by rw [List.length_append, List.length_map], rfl, by simp only [List.length_singleton]; omega, by simp only [List.length_singleton]; omega⟩ fun b4 t4 => ?_
      rw [List.take_left' (by rw [List.length_map])]
      repeat' (first | with_reducible refine sw_in (by omega) ?_ | with_reducible (first | refine go1 ?_ | refine sct ?_ | refine scf ?_ | refine sgr ?_) | (with_reducible refine sc_cond (fun h => ?_) (fun h => ?_)) <;> (try (exfalso; first | contradiction | omega | exact h Iff.rfl)) | fail)
      refine sq_round ⟨(j + 1, b4, t4), by omega⟩ ?_ ?_ ?_
      · show K - (j + 1) < K - j
        omega
      · refine says_cons ?_ (says_cons rfl (says_cons rfl (says_cons ?_ says_nil)))
        · dsimp only; rw [putS_succ, List.length_append]; try rfl
        · have hs1 : (8 * ((K : Int) - 1) - 8 * ((j + 1 : Nat) : Int)) = 8 * ((K : Int) - 1) - 8 * (j : Int) - 8 := by omega
          dsimp only
          rw [hs1]; try rfl
      · show Ent _ ((b4, pts b4 (.cells ((putS bs (8 - ((width n : Int) - 1)) (fun a => 255 - a) (-n - 1) K (j + 1)).map (Value.int .u8) ++ t4).toArray 5 (0, 0))) :: (k, r) :: F)
        rw [putS_succ, List.map_append]
        repeat' (first | with_reducible exact Ent.refl _ | with_reducible refine Ent.take_eq ?_ ?_ | rfl | with_reducible refine Ent.trans (Ent.drop _ _) ?_)
    have hjK : j = K := by omega
    subst hjK
    have hfin : putS bs (8 - ((width n : Int) - 1)) (fun a => 255 - a) (-n - 1) j j = bs ++ intB n := (by
          unfold intB putS
          rw [if_neg h1, if_pos (by omega), hK]
          congr 1
          congr 1
          · omega
          · unfold beB
            rw [List.map_map]; rfl)
    rw [hfin]
    refine sq_ret1 Tryz.results76 ?_
    refine ⟨_, ⟨b2, t2, rfl, rfl⟩, Ent.refl _⟩
  · have h1 : ¬ width n = 1 := by omega
    obtain ⟨K, hK⟩ : ∃ K : Nat, width n = K + 1 := ⟨width n - 1, by omega⟩
    refine sw_buildSlice [.int .u8 (208 + ((width n : Int) - 1))] (by omega) rfl fun b1 => ?_
    refine sw_append_clip k [.int .u8 (208 + ((width n : Int) - 1))] hcl src_pts0 ⟨by simp, rfl, by simp; omega, by simp; omega⟩ fun b' t => ?_
    repeat' (first | with_reducible refine sw_in (by omega) ?_ | with_reducible (first | refine go1 ?_ | refine sct ?_ | refine scf ?_ | refine sgr ?_) | (with_reducible refine sc_cond (fun h => ?_) (fun h => ?_)) <;> (try (exfalso; first | contradiction | omega | exact h Iff.rfl)) | (with_reducible refine sw_guard_split (fun h => ?_) (fun h => ?_)) <;> (try (exfalso; first | contradiction | omega | exact h Iff.rfl)) | (with_reducible refine sw_pick (fun h => ?_) (fun h => ?_)) <;> (try (exfalso; first | contradiction | omega | exact h Iff.rfl)) | fail)
    refine sc_loop (α := { x : Nat × Nat × List Value // x.1 ≤ K }) (fun x => [(0, .slice (some ⟨x.1.2.1, 0, none⟩) (putS bs (208 + ((width n : Int) - 1)) (fun a => a) (n) K x.1.1).length ((putS bs (208 + ((width n : Int) - 1)) (fun a => a) (n) K x.1.1).length + x.1.2.2.length)), (1, .int .i64 (n)), (7, .int .u8 0), (8, .int .i64 (8 * ((K : Int) - 1) - 8 * (x.1.1 : Int)))])
      (fun x => (x.1.2.1, pts x.1.2.1 (.cells ((putS bs (208 + ((width n : Int) - 1)) (fun a => a) (n) K x.1.1).map (Value.int .u8) ++ x.1.2.2).toArray 5 (0, 0))) :: (k, r) :: F) (fun x => K - x.1.1) ⟨(0, b', t), Nat.zero_le _⟩ ?_ ?_ ?_
    · refine says_cons ?_ (says_cons rfl (says_cons rfl (says_cons ?_ says_nil)))
      · rw [putS_len]; try rfl
      · have hs0 : (8 * ((K : Int) - 1) - 8 * ((0 : Nat) : Int)) = 8 * ((width n : Int) - 1 - 1) := by omega
        dsimp only
        rw [hs0]; try rfl
    · show Ent _ ((b', pts b' (.cells ((putS bs (208 + ((width n : Int) - 1)) (fun a => a) (n) K 0).map (Value.int .u8) ++ t).toArray 5 (0, 0))) :: (k, r) :: F)
      rw [putS_zero, List.map_append]
      repeat' (first | with_reducible exact Ent.refl _ | with_reducible refine Ent.take_eq ?_ ?_ | rfl | with_reducible refine Ent.trans (Ent.drop _ _) ?_)
    rintro ⟨⟨j, b2, t2⟩, hj⟩ e
    simp only at hj
    simp only [List.cons_append, List.nil_append]
    have hSl := putS_len bs (208 + ((width n : Int) - 1)) (fun a => a) (n) K j
    repeat' (first | with_reducible refine sw_in (by omega) ?_ | with_reducible (first | refine go1 ?_ | refine sct ?_ | refine scf ?_ | refine sgr ?_) | (with_reducible refine sc_cond (fun h => ?_) (fun h => ?_)) <;> (try (exfalso; first | contradiction | omega | exact h Iff.rfl)) | fail)
    focus
      refine sw_shrP (k := .i64) (8 * (K - 1 - j)) (256 ^ (K - 1 - j)) ⟨by omega, by show _ ≤ 64; omega, by omega, pow256 _⟩ ?_
      repeat' (first | with_reducible (first | refine go1 ?_ | refine sct ?_ | refine scf ?_ | refine sgr ?_) | fail)
      rw [wrap_u8_mod, ixor_u8_0 (a := (n) / 256 ^ (K - 1 - j) % 256) (by omega)]
      refine sw_buildSlice [.int .u8 ((fun a => a) ((n) / 256 ^ (K - 1 - j) % 256))] (by omega) rfl fun b3 => ?_
      refine sw_append (src := [Value.int .u8 ((fun a => a) ((n) / 256 ^ (K - 1 - j) % 256))]) src_pts0 (by simp [Value.oneCell']) ⟨by omega, by rw [List.length_append, List.length_map], rfl, by simp only [List.length_singleton]; omega, by simp only [List.length_singleton]; omega⟩ fun b4 t4 => ?_
      rw [List.take_left' (by rw [List.length_map])]
      repeat' (first | with_reducible refine sw_in (by omega) ?_ | with_reducible (first | refine go1 ?_ | refine sct ?_ | refine scf ?_ | refine sgr ?_) | (with_reducible refine sc_cond (fun h => ?_) (fun h => ?_)) <;> (try (exfalso; first | contradiction | omega | exact h Iff.rfl)) | fail)
      refine sq_round ⟨(j + 1, b4, t4), by omega⟩ ?_ ?_ ?_
      · show K - (j + 1) < K - j
        omega
      · refine says_cons ?_ (says_cons rfl (says_cons rfl (says_cons ?_ says_nil)))
        · dsimp only; rw [putS_succ, List.length_append]; try rfl
        · have hs1 : (8 * ((K : Int) - 1) - 8 * ((j + 1 : Nat) : Int)) = 8 * ((K : Int) - 1) - 8 * (j : Int) - 8 := by omega
          dsimp only
          rw [hs1]; try rfl
      · show Ent _ ((b4, pts b4 (.cells ((putS bs (208 + ((width n : Int) - 1)) (fun a => a) (n) K (j + 1)).map (Value.int .u8) ++ t4).toArray 5 (0, 0))) :: (k, r) :: F)
        rw [putS_succ, List.map_append]
        repeat' (first | with_reducible exact Ent.refl _ | with_reducible refine Ent.take_eq ?_ ?_ | rfl | with_reducible refine Ent.trans (Ent.drop _ _) ?_)
    have hjK : j = K := by omega
    subst hjK
    have hfin : putS bs (208 + ((width n : Int) - 1)) (fun a => a) (n) j j = bs ++ intB n := (by
          unfold intB putS
          rw [if_neg h1, if_neg (by omega), hK]
          congr 1
          congr 1
          omega)
    rw [hfin]
    refine sq_ret1 Tryz.results76 ?_
    refine ⟨_, ⟨b2, t2, rfl, rfl⟩, Ent.refl _⟩
end Go.Gsl

namespace Go.Gsl
set_option linter.unusedVariables false
open Go.Proofs

/-- the number of bytes, the highest one first -/
def ofBE (xs : List Int) : Int := xs.foldl (fun u c => u * 256 + c) 0
theorem ofBE_snoc (xs : List Int) (c : Int) : ofBE (xs ++ [c]) = ofBE xs * 256 + c := by unfold ofBE; rw [List.foldl_append]; rfl
theorem ofBE_lt : ∀ (n : Nat) (xs : List Int), xs.length = n → Byt xs → 0 ≤ ofBE xs ∧ ofBE xs < ((256 ^ n : Nat) : Int)
  | 0, xs, h, _ => by
    rw [List.eq_nil_of_length_eq_zero h]; decide
  | n + 1, xs, h, hb => by
    rcases List.eq_nil_or_concat xs with rfl | ⟨ys, c, rfl⟩
    · simp at h
    · rw [List.concat_eq_append] at h hb ⊢
      rw [ofBE_snoc]
      have hy := ofBE_lt n ys (by simpa using h) fun x hx => hb x (by simp [hx])
      have hc := hb c (by simp)
      have h2 : (256 ^ (n + 1) : Nat) = 256 ^ n * 256 := Nat.pow_succ ..
      omega
theorem pow_le8 {i : Nat} (h : i ≤ 8) : (256 ^ i : Nat) ≤ 18446744073709551616 := Nat.le_trans (Nat.pow_le_pow_right (by omega) h) (by decide)
theorem pow_le7 {i : Nat} (h : i ≤ 7) : (256 ^ i : Nat) ≤ 72057594037927936 := Nat.le_trans (Nat.pow_le_pow_right (by omega) h) (by decide)

def takeK (k : Nat) (g : Int → Int) (neg : Bool) (r : List Int) : Int × Int × Int :=
  if r.length < k then (0, 0, 10)
  else if 9223372036854775807 < ofBE ((r.take k).map g) ∨ width (if neg then -ofBE ((r.take k).map g) - 1 else ofBE ((r.take k).map g)) ≠ 1 + k then (0, 0, 11)
  else (if neg then -ofBE ((r.take k).map g) - 1 else ofBE ((r.take k).map g), 1 + k, 0)
/-- the int with which bytes begin, how many it takes, what is wrong -/
def takeInt : List Int → Int × Int × Int
  | [] => (0, 0, 10)
  | h :: r => if 216 < h then (0, 0, 11) else if 208 < h then takeK (h - 208).toNat (fun a => a) false r else if h < 8 then takeK (8 - h).toNat (fun a => 255 - a) true r else (h - 108, 1, 0)

theorem takeInt_cons (h : Int) (r : List Int) : takeInt (h :: r) = if 216 < h then (0, 0, 11) else if 208 < h then takeK (h - 208).toNat (fun a => a) false r else if h < 8 then takeK (8 - h).toNat (fun a => 255 - a) true r else (h - 108, 1, 0) := rfl
theorem wrap_i64_in (c : Int) : -9223372036854775808 ≤ IntKind.i64.wrap c ∧ IntKind.i64.wrap c ≤ 9223372036854775807 := by
  have : IntKind.i64.wrap c = (c + 9223372036854775808) % 18446744073709551616 - 9223372036854775808 := by
    simp [IntKind.wrap, IntKind.bits, IntKind.signed]
    omega
  omega


set_option maxHeartbeats 1000000 in
theorem cInt_ok (k : Nat) (r : HProp) (v : Value) (bs : List Int) (hv : RdB r v bs) (hb : Byt bs) (hl : bs.length ≤ 140737488355328) :
    Spec Tryz.prog 88 [v] [k] [r] fun F w Rs' => w = .tuple #[.int .i64 (takeInt bs).1, .int .i64 (takeInt bs).2.1, .int .i64 (takeInt bs).2.2] ∧ Rs' = (k, r) :: F := by
  refine spec_of Tryz.func88 rfl Tryz.ntmps88 rfl ?_
  intro w0 F
  cases hv with
  | nil =>
    repeat' (first | with_reducible (first | refine go1 ?_ | refine sct ?_ | refine scf ?_ | refine sgr ?_) | (with_reducible refine sc_cond (fun h => ?_) (fun h => ?_)) <;> (try (exfalso; first | contradiction | omega | exact h Iff.rfl)) | fail)
    refine sq_ret3 Tryz.results88 ?_
    exact ⟨_, ⟨rfl, rfl⟩, Ent.refl _⟩
  | row b o c bs hc hr =>
    cases bs with
    | nil =>
      repeat' (first | with_reducible (first | refine go1 ?_ | refine sct ?_ | refine scf ?_ | refine sgr ?_) | (with_reducible refine sc_cond (fun h => ?_) (fun h => ?_)) <;> (try (exfalso; first | contradiction | omega | exact h Iff.rfl)) | fail)
      refine sq_ret3 Tryz.results88 ?_
      exact ⟨_, ⟨rfl, rfl⟩, Ent.refl _⟩
    | cons hd rest =>
      have hbh := hb hd (by simp)
      have hbr : Byt rest := fun x hx => hb x (by simp [hx])
      have hpos : 0 < (hd :: rest).length := by simp
      repeat' (first | with_reducible (first | refine go1 ?_ | refine sct ?_ | refine scf ?_ | refine sgr ?_) | (with_reducible refine sc_cond (fun h => ?_) (fun h => ?_)) <;> (try (exfalso; first | contradiction | omega | exact h Iff.rfl)) | fail)
      refine sw_index (by omega) ?_
      repeat' (first | with_reducible (first | refine go1 ?_ | refine sct ?_ | refine scf ?_ | refine sgr ?_) | fail)
      refine sw_load_rd k 0 (.int .u8 hd) hr rfl (by simp) ?_
      repeat' (first | with_reducible refine sw_in (by omega) ?_ | with_reducible (first | refine go1 ?_ | refine sct ?_ | refine scf ?_ | refine sgr ?_) | (with_reducible refine sc_cond (fun h => ?_) (fun h => ?_)) <;> (try (exfalso; first | contradiction | omega | exact h Iff.rfl)) | fail)
      · refine sq_ret3 Tryz.results88 ?_
        refine ⟨_, ⟨?_, rfl⟩, Ent.refl _⟩
        rw [takeInt_cons, if_pos h]
      · obtain ⟨K, hK⟩ : ∃ K : Nat, hd - 208 = (K : Int) := ⟨(hd - 208).toNat, by omega⟩
        have hT : takeInt (hd :: rest) = takeK K (fun a => a) false rest := by
          rw [takeInt_cons]
          rw [if_neg (by omega), if_pos (by omega)]
          rw [hK, Int.toNat_natCast]
        rw [hT]
        refine sq_ret3 Tryz.results88 ?_
        refine ⟨_, ⟨?_, rfl⟩, Ent.refl _⟩
        unfold takeK
        rw [if_pos (by simp only [List.length_cons] at h; omega)]
      · obtain ⟨K, hK⟩ : ∃ K : Nat, hd - 208 = (K : Int) := ⟨(hd - 208).toNat, by omega⟩
        have hT : takeInt (hd :: rest) = takeK K (fun a => a) false rest := by
          rw [takeInt_cons]
          rw [if_neg (by omega), if_pos (by omega)]
          rw [hK, Int.toNat_natCast]
        rw [hT]
        rw [hK]
        · have hlen : K ≤ rest.length := by simp only [List.length_cons] at h; omega
          clear h
          have hbR : Byt ((rest.take K).map (fun a => a)) := fun x hx => by
            obtain ⟨y, hy, rfl⟩ := List.mem_map.1 hx
            have := hbr y (List.mem_of_mem_take hy)
            (try simp only); omega
          refine sw_slice 1 (1 + K) c (o + 1) (by simp only [List.length_cons] at hc; omega) ⟨rfl, by omega, rfl, by rw [if_neg (by simp only [List.length_cons] at hc; omega)]⟩ ?_
          simp only [Nat.add_sub_cancel_left]
          repeat' (first | with_reducible (first | refine go1 ?_ | refine sct ?_ | refine scf ?_ | refine sgr ?_) | fail)
          refine sc_loop (α := { i : Nat // i ≤ K }) (fun i => [(6, .int .i64 (K : Int)), (7, .int .u8 0), (8, .int .u64 (ofBE ((rest.take i.1).map (fun a => a)))), (41, .slice (some ⟨b, o + 1, none⟩) K (c - 1)), (42, .int .i64 (K : Int)), (43, .int .i64 (i.1 : Int))])
            (fun _ => (k, r) :: F) (fun i => K - i.1) ⟨0, Nat.zero_le _⟩ ?_ ?_ ?_
          · repeat' (first | exact says_nil | refine says_cons rfl ?_ | refine says_cons (by simp) ?_)
          · exact Ent.refl _
          rintro ⟨i, hi⟩ e
          (try simp only at hi)
          simp only [List.cons_append, List.nil_append]
          repeat' (first | with_reducible refine sw_in (by omega) ?_ | with_reducible (first | refine go1 ?_ | refine sct ?_ | refine scf ?_ | refine sgr ?_) | (with_reducible refine sc_cond (fun h => ?_) (fun h => ?_)) <;> (try (exfalso; first | contradiction | omega | exact h Iff.rfl)) | fail)
          focus
            have hi2 : i < K := by omega
            have hi3 : i < rest.length := by omega
            have hri : rest[i]? = some rest[i] := List.getElem?_eq_getElem hi3
            have hbi := hbr rest[i] (List.getElem_mem hi3)
            have hU := ofBE_lt i ((rest.take i).map (fun a => a)) (by rw [List.length_map, List.length_take]; omega) (fun x hx => by
              obtain ⟨y, hy, rfl⟩ := List.mem_map.1 hx
              have := hbr y (List.mem_of_mem_take hy)
              (try simp only); omega)
            have hp := pow_le7 (i := i) (by omega)
            have hsn : ofBE ((rest.take (i + 1)).map (fun a => a)) = ofBE ((rest.take i).map (fun a => a)) * 256 + (fun a => a) rest[i] := by
              rw [List.take_add_one, hri, Option.toList_some, List.map_append, List.map_singleton, ofBE_snoc]
            refine sw_index (by omega) ?_
            repeat' (first | with_reducible (first | refine go1 ?_ | refine sct ?_ | refine scf ?_ | refine sgr ?_) | fail)
            refine sw_load_rd k (1 + i) (.int .u8 rest[i]) hr (by rw [Nat.add_comm, List.map_cons, List.getElem?_cons_succ, List.getElem?_map, hri]; rfl) (by simp; omega) ?_
            repeat' (first | with_reducible (first | refine go1 ?_ | refine sct ?_ | refine scf ?_ | refine sgr ?_) | fail)
            refine sw_shlP (k := .u64) 8 256 ⟨rfl, by decide, rfl⟩ (by omega) ?_
            generalize rest[i] = y at *
            with_reducible refine sw_op ?_
            with_reducible refine sw_op ?_
            refine sw_as (.int .u8 ((fun a => a) y)) (by rw [ixor_u8_0 (a := y) hbi]) ?_
            have hg : 0 ≤ (fun a => a) y ∧ (fun a => a) y ≤ 255 := by (try simp only); omega
            generalize hgy : (fun a => a) y = gy at *
            repeat' (first | with_reducible refine sw_in (by omega) ?_ | with_reducible (first | refine go1 ?_ | refine sct ?_ | refine scf ?_ | refine sgr ?_) | (with_reducible refine sc_cond (fun h => ?_) (fun h => ?_)) <;> (try (exfalso; first | contradiction | omega | exact h Iff.rfl)) | fail)
            rw [ior_u64 (by omega) hg (by omega)]
            rw [← hsn]
            refine sq_round ⟨i + 1, by omega⟩ ?_ ?_ ?_
            · show K - (i + 1) < K - i
              omega
            · repeat' (first | exact says_nil | refine says_cons rfl ?_ | refine says_cons (by simp) ?_)
            · exact Ent.refl _
          have hiK : i = K := by omega
          subst hiK
          have hU := ofBE_lt i ((rest.take i).map (fun a => a)) (by rw [List.length_map, List.length_take]; omega) hbR
          have hp := pow_le8 (i := i) (by omega)
          unfold takeK
          rw [if_neg (by omega)]
          generalize ofBE ((rest.take i).map (fun a => a)) = U at *
          rcases Int.lt_or_le 9223372036854775807 U with hbig | hsm
          · rw [if_pos (Or.inl hbig)]
            have hwr := wrap_i64_in U
            repeat' (first | with_reducible (first | refine go1 ?_ | refine sct ?_ | refine scf ?_ | refine sgr ?_) | (with_reducible refine sc_cond (fun h => ?_) (fun h => ?_)) <;> (try (exfalso; first | contradiction | omega | exact h Iff.rfl)) | fail)
            skip
            refine sw_shrP (k := .u64) 63 9223372036854775808 ⟨rfl, by decide, by omega, rfl⟩ ?_
            repeat' (first | with_reducible (first | refine go1 ?_ | refine sct ?_ | refine scf ?_ | refine sgr ?_) | (with_reducible refine sc_cond (fun h => ?_) (fun h => ?_)) <;> (try (exfalso; first | contradiction | omega | exact h Iff.rfl)) | (with_reducible refine sw_guard_split (fun h => ?_) (fun h => ?_)) <;> (try (exfalso; first | contradiction | omega | exact h Iff.rfl)) | (with_reducible refine sw_pick (fun h => ?_) (fun h => ?_)) <;> (try (exfalso; first | contradiction | omega | exact h Iff.rfl)) | fail)
            refine sq_ret3 Tryz.results88 ?_
            exact ⟨_, ⟨rfl, rfl⟩, Ent.refl _⟩
          · try rw [IntWalk.i64_in U (by omega)]
            repeat' (first | with_reducible refine sw_in (by omega) ?_ | with_reducible (first | refine go1 ?_ | refine sct ?_ | refine scf ?_ | refine sgr ?_) | (with_reducible refine sc_cond (fun h => ?_) (fun h => ?_)) <;> (try (exfalso; first | contradiction | omega | exact h Iff.rfl)) | fail)
            skip
            refine sw_shrP (k := .u64) 63 9223372036854775808 ⟨rfl, by decide, by omega, rfl⟩ ?_
            repeat' (first | with_reducible refine sw_in (by omega) ?_ | with_reducible (first | refine go1 ?_ | refine sct ?_ | refine scf ?_ | refine sgr ?_) | (with_reducible refine sc_cond (fun h => ?_) (fun h => ?_)) <;> (try (exfalso; first | contradiction | omega | exact h Iff.rfl)) | (with_reducible refine sw_guard_split (fun h => ?_) (fun h => ?_)) <;> (try (exfalso; first | contradiction | omega | exact h Iff.rfl)) | (with_reducible refine sw_pick (fun h => ?_) (fun h => ?_)) <;> (try (exfalso; first | contradiction | omega | exact h Iff.rfl)) | fail)
            refine sw_call (cWidth_ok (U) (by omega)) ?_
            rintro _ _ ⟨rfl, rfl⟩
            repeat' (first | with_reducible refine sw_in (by omega) ?_ | with_reducible (first | refine go1 ?_ | refine sct ?_ | refine scf ?_ | refine sgr ?_) | (with_reducible refine sc_cond (fun h => ?_) (fun h => ?_)) <;> (try (exfalso; first | contradiction | omega | exact h Iff.rfl)) | (with_reducible refine sw_guard_split (fun h => ?_) (fun h => ?_)) <;> (try (exfalso; first | contradiction | omega | exact h Iff.rfl)) | (with_reducible refine sw_pick (fun h => ?_) (fun h => ?_)) <;> (try (exfalso; first | contradiction | omega | exact h Iff.rfl)) | fail)
            · have hne : width (U) ≠ 1 + i := by omega
              rw [if_pos (Or.inr (by simpa using hne))]
              refine sq_ret3 Tryz.results88 ?_
              exact ⟨_, ⟨rfl, rfl⟩, Ent.refl _⟩
            · have hne : width (U) = 1 + i := by omega
              rw [if_neg (by simp; omega)]
              refine sq_ret3 Tryz.results88 ?_
              exact ⟨_, ⟨rfl, rfl⟩, Ent.refl _⟩
      · obtain ⟨K, hK⟩ : ∃ K : Nat, 8 - hd = (K : Int) := ⟨(8 - hd).toNat, by omega⟩
        have hT : takeInt (hd :: rest) = takeK K (fun a => 255 - a) true rest := by
          rw [takeInt_cons]
          rw [if_neg (by omega), if_neg (by omega), if_pos (by omega)]
          rw [hK, Int.toNat_natCast]
        rw [hT]
        refine sq_ret3 Tryz.results88 ?_
        refine ⟨_, ⟨?_, rfl⟩, Ent.refl _⟩
        unfold takeK
        rw [if_pos (by simp only [List.length_cons] at h; omega)]
      · obtain ⟨K, hK⟩ : ∃ K : Nat, 8 - hd = (K : Int) := ⟨(8 - hd).toNat, by omega⟩
        have hT : takeInt (hd :: rest) = takeK K (fun a => 255 - a) true rest := by
          rw [takeInt_cons]
          rw [if_neg (by omega), if_neg (by omega), if_pos (by omega)]
          rw [hK, Int.toNat_natCast]
        rw [hT]
        rw [hK]
        · have hlen : K ≤ rest.length := by simp only [List.length_cons] at h; omega
          clear h
          have hbR : Byt ((rest.take K).map (fun a => 255 - a)) := fun x hx => by
            obtain ⟨y, hy, rfl⟩ := List.mem_map.1 hx
            have := hbr y (List.mem_of_mem_take hy)
            (try simp only); omega
          refine sw_slice 1 (1 + K) c (o + 1) (by simp only [List.length_cons] at hc; omega) ⟨rfl, by omega, rfl, by rw [if_neg (by simp only [List.length_cons] at hc; omega)]⟩ ?_
          simp only [Nat.add_sub_cancel_left]
          repeat' (first | with_reducible (first | refine go1 ?_ | refine sct ?_ | refine scf ?_ | refine sgr ?_) | fail)
          refine sc_loop (α := { i : Nat // i ≤ K }) (fun i => [(6, .int .i64 (K : Int)), (7, .int .u8 255), (8, .int .u64 (ofBE ((rest.take i.1).map (fun a => 255 - a)))), (41, .slice (some ⟨b, o + 1, none⟩) K (c - 1)), (42, .int .i64 (K : Int)), (43, .int .i64 (i.1 : Int))])
            (fun _ => (k, r) :: F) (fun i => K - i.1) ⟨0, Nat.zero_le _⟩ ?_ ?_ ?_
          · repeat' (first | exact says_nil | refine says_cons rfl ?_ | refine says_cons (by simp) ?_)
          · exact Ent.refl _
          rintro ⟨i, hi⟩ e
          (try simp only at hi)
          simp only [List.cons_append, List.nil_append]
          repeat' (first | with_reducible refine sw_in (by omega) ?_ | with_reducible (first | refine go1 ?_ | refine sct ?_ | refine scf ?_ | refine sgr ?_) | (with_reducible refine sc_cond (fun h => ?_) (fun h => ?_)) <;> (try (exfalso; first | contradiction | omega | exact h Iff.rfl)) | fail)
          focus
            have hi2 : i < K := by omega
            have hi3 : i < rest.length := by omega
            have hri : rest[i]? = some rest[i] := List.getElem?_eq_getElem hi3
            have hbi := hbr rest[i] (List.getElem_mem hi3)
            have hU := ofBE_lt i ((rest.take i).map (fun a => 255 - a)) (by rw [List.length_map, List.length_take]; omega) (fun x hx => by
              obtain ⟨y, hy, rfl⟩ := List.mem_map.1 hx
              have := hbr y (List.mem_of_mem_take hy)
              (try simp only); omega)
            have hp := pow_le7 (i := i) (by omega)
            have hsn : ofBE ((rest.take (i + 1)).map (fun a => 255 - a)) = ofBE ((rest.take i).map (fun a => 255 - a)) * 256 + (fun a => 255 - a) rest[i] := by
              rw [List.take_add_one, hri, Option.toList_some, List.map_append, List.map_singleton, ofBE_snoc]
            refine sw_index (by omega) ?_
            repeat' (first | with_reducible (first | refine go1 ?_ | refine sct ?_ | refine scf ?_ | refine sgr ?_) | fail)
            refine sw_load_rd k (1 + i) (.int .u8 rest[i]) hr (by rw [Nat.add_comm, List.map_cons, List.getElem?_cons_succ, List.getElem?_map, hri]; rfl) (by simp; omega) ?_
            repeat' (first | with_reducible (first | refine go1 ?_ | refine sct ?_ | refine scf ?_ | refine sgr ?_) | fail)
            refine sw_shlP (k := .u64) 8 256 ⟨rfl, by decide, rfl⟩ (by omega) ?_
            generalize rest[i] = y at *
            with_reducible refine sw_op ?_
            with_reducible refine sw_op ?_
            refine sw_as (.int .u8 ((fun a => 255 - a) y)) (by rw [ixor_u8_255 (a := y) hbi]) ?_
            have hg : 0 ≤ (fun a => 255 - a) y ∧ (fun a => 255 - a) y ≤ 255 := by (try simp only); omega
            generalize hgy : (fun a => 255 - a) y = gy at *
            repeat' (first | with_reducible refine sw_in (by omega) ?_ | with_reducible (first | refine go1 ?_ | refine sct ?_ | refine scf ?_ | refine sgr ?_) | (with_reducible refine sc_cond (fun h => ?_) (fun h => ?_)) <;> (try (exfalso; first | contradiction | omega | exact h Iff.rfl)) | fail)
            rw [ior_u64 (by omega) hg (by omega)]
            rw [← hsn]
            refine sq_round ⟨i + 1, by omega⟩ ?_ ?_ ?_
            · show K - (i + 1) < K - i
              omega
            · repeat' (first | exact says_nil | refine says_cons rfl ?_ | refine says_cons (by simp) ?_)
            · exact Ent.refl _
          have hiK : i = K := by omega
          subst hiK
          have hU := ofBE_lt i ((rest.take i).map (fun a => 255 - a)) (by rw [List.length_map, List.length_take]; omega) hbR
          have hp := pow_le8 (i := i) (by omega)
          unfold takeK
          rw [if_neg (by omega)]
          generalize ofBE ((rest.take i).map (fun a => 255 - a)) = U at *
          rcases Int.lt_or_le 9223372036854775807 U with hbig | hsm
          · rw [if_pos (Or.inl hbig)]
            have hwr := wrap_i64_in U
            repeat' (first | with_reducible (first | refine go1 ?_ | refine sct ?_ | refine scf ?_ | refine sgr ?_) | (with_reducible refine sc_cond (fun h => ?_) (fun h => ?_)) <;> (try (exfalso; first | contradiction | omega | exact h Iff.rfl)) | fail)
            refine sw_cpl hwr ?_; repeat' (first | with_reducible (first | refine go1 ?_ | refine sct ?_ | refine scf ?_ | refine sgr ?_) | (with_reducible refine sc_cond (fun h => ?_) (fun h => ?_)) <;> (try (exfalso; first | contradiction | omega | exact h Iff.rfl)) | fail)
            refine sw_shrP (k := .u64) 63 9223372036854775808 ⟨rfl, by decide, by omega, rfl⟩ ?_
            repeat' (first | with_reducible (first | refine go1 ?_ | refine sct ?_ | refine scf ?_ | refine sgr ?_) | (with_reducible refine sc_cond (fun h => ?_) (fun h => ?_)) <;> (try (exfalso; first | contradiction | omega | exact h Iff.rfl)) | (with_reducible refine sw_guard_split (fun h => ?_) (fun h => ?_)) <;> (try (exfalso; first | contradiction | omega | exact h Iff.rfl)) | (with_reducible refine sw_pick (fun h => ?_) (fun h => ?_)) <;> (try (exfalso; first | contradiction | omega | exact h Iff.rfl)) | fail)
            refine sq_ret3 Tryz.results88 ?_
            exact ⟨_, ⟨rfl, rfl⟩, Ent.refl _⟩
          · try rw [IntWalk.i64_in U (by omega)]
            repeat' (first | with_reducible refine sw_in (by omega) ?_ | with_reducible (first | refine go1 ?_ | refine sct ?_ | refine scf ?_ | refine sgr ?_) | (with_reducible refine sc_cond (fun h => ?_) (fun h => ?_)) <;> (try (exfalso; first | contradiction | omega | exact h Iff.rfl)) | fail)
            refine sw_cpl (by omega) ?_; repeat' (first | with_reducible refine sw_in (by omega) ?_ | with_reducible (first | refine go1 ?_ | refine sct ?_ | refine scf ?_ | refine sgr ?_) | (with_reducible refine sc_cond (fun h => ?_) (fun h => ?_)) <;> (try (exfalso; first | contradiction | omega | exact h Iff.rfl)) | fail)
            refine sw_shrP (k := .u64) 63 9223372036854775808 ⟨rfl, by decide, by omega, rfl⟩ ?_
            repeat' (first | with_reducible refine sw_in (by omega) ?_ | with_reducible (first | refine go1 ?_ | refine sct ?_ | refine scf ?_ | refine sgr ?_) | (with_reducible refine sc_cond (fun h => ?_) (fun h => ?_)) <;> (try (exfalso; first | contradiction | omega | exact h Iff.rfl)) | (with_reducible refine sw_guard_split (fun h => ?_) (fun h => ?_)) <;> (try (exfalso; first | contradiction | omega | exact h Iff.rfl)) | (with_reducible refine sw_pick (fun h => ?_) (fun h => ?_)) <;> (try (exfalso; first | contradiction | omega | exact h Iff.rfl)) | fail)
            refine sw_call (cWidth_ok (-U - 1) (by omega)) ?_
            rintro _ _ ⟨rfl, rfl⟩
            repeat' (first | with_reducible refine sw_in (by omega) ?_ | with_reducible (first | refine go1 ?_ | refine sct ?_ | refine scf ?_ | refine sgr ?_) | (with_reducible refine sc_cond (fun h => ?_) (fun h => ?_)) <;> (try (exfalso; first | contradiction | omega | exact h Iff.rfl)) | (with_reducible refine sw_guard_split (fun h => ?_) (fun h => ?_)) <;> (try (exfalso; first | contradiction | omega | exact h Iff.rfl)) | (with_reducible refine sw_pick (fun h => ?_) (fun h => ?_)) <;> (try (exfalso; first | contradiction | omega | exact h Iff.rfl)) | fail)
            · have hne : width (-U - 1) ≠ 1 + i := by omega
              rw [if_pos (Or.inr (by simpa using hne))]
              refine sq_ret3 Tryz.results88 ?_
              exact ⟨_, ⟨rfl, rfl⟩, Ent.refl _⟩
            · have hne : width (-U - 1) = 1 + i := by omega
              rw [if_neg (by simp; omega)]
              refine sq_ret3 Tryz.results88 ?_
              exact ⟨_, ⟨rfl, rfl⟩, Ent.refl _⟩
      · refine sq_ret3 Tryz.results88 ?_
        refine ⟨_, ⟨?_, rfl⟩, Ent.refl _⟩
        rw [takeInt_cons, if_neg (by omega), if_neg (by omega), if_neg (by omega)]
end Go.Gsl

namespace Go.Gsl
set_option linter.unusedVariables false
open Go.Proofs

/-- one step of a sum -/
def ad (p : Int × Int) (c : Int) : Int × Int := ((p.1 + c) % 65521, (p.2 + (p.1 + c) % 65521) % 65521)
def adF (bs : List Int) : Int × Int := bs.foldl ad (1, 0)
theorem adF_snoc (bs : List Int) (c : Int) : adF (bs ++ [c]) = ad (adF bs) c := by unfold adF; rw [List.foldl_append]; rfl
theorem ad_in (p : Int × Int) (c : Int) : (0 ≤ (ad p c).1 ∧ (ad p c).1 < 65521) ∧ 0 ≤ (ad p c).2 ∧ (ad p c).2 < 65521 := by
  unfold ad
  simp only
  omega
theorem adF_in (bs : List Int) : (0 ≤ (adF bs).1 ∧ (adF bs).1 < 65521) ∧ 0 ≤ (adF bs).2 ∧ (adF bs).2 < 65521 := by
  rcases List.eq_nil_or_concat bs with rfl | ⟨ys, c, rfl⟩
  · decide
  · rw [List.concat_eq_append, adF_snoc]; exact ad_in _ _
/-- a sum of bytes -/
def adler (bs : List Int) : Int := (adF bs).2 * 65536 + (adF bs).1
theorem adler_in (bs : List Int) : 0 ≤ adler bs ∧ adler bs < 4294967296 := by
  have := adF_in bs
  unfold adler
  omega

theorem RdB.gen {r : HProp} {v : Value} {bs : List Int} (h : RdB r v bs) : ∃ a c, v = .slice a bs.length c ∧ (0 < bs.length → ∃ b o, a = some ⟨b, o, none⟩) ∧ bs.length ≤ c ∧ Reads r a (bs.map (Value.int .u8)) := by
  cases h with
  | nil => exact ⟨none, 0, rfl, fun h => by simp at h, Nat.le_refl _, reads_nil _ _⟩
  | row b o c bs hc hr => exact ⟨_, c, rfl, fun _ => ⟨b, o, rfl⟩, hc, hr⟩

set_option maxHeartbeats 1000000 in
theorem cSum_ok (b k : Nat) (r : HProp) (v : Value) (bs : List Int) (hv : RdB r v bs) (hb : Byt bs) (hl : bs.length ≤ 140737488355328) :
    Spec Tryz.prog 75 [.slice (some ⟨b, 0, none⟩) 1 1] [b, k] [pts b (.cells [v].toArray 53 (0, 0)), r] fun F w Rs' => w = .int .u32 (adler bs) ∧ Rs' = (b, pts b (.cells [v].toArray 53 (0, 0))) :: (k, r) :: F := by
  refine spec_of Tryz.func75 rfl Tryz.ntmps75 rfl ?_
  intro w0 F
  obtain ⟨a, c, rfl, hsome, hc, hr⟩ := hv.gen
  repeat' (first | with_reducible (first | refine go1 ?_ | refine sct ?_ | refine scf ?_ | refine sgr ?_) | fail)
  refine sc_loop (α := { i : Nat // i ≤ 1 }) (fun i => [(3, .int .u32 (adF (if i.1 = 0 then [] else bs)).1), (4, .int .u32 (adF (if i.1 = 0 then [] else bs)).2), (9, .slice (some ⟨b, 0, none⟩) 1 1), (10, .int .i64 1), (11, .int .i64 (i.1 : Int))])
    (fun _ => (b, pts b (.cells [Value.slice a bs.length c].toArray 53 (0, 0))) :: (k, r) :: F) (fun i => 1 - i.1) ⟨0, Nat.zero_le _⟩ ?_ ?_ ?_
  · repeat' (first | exact says_nil | refine says_cons rfl ?_ | refine says_cons (by simp) ?_)
  · exact Ent.refl _
  rintro ⟨i, hi⟩ e
  (try simp only at hi)
  simp only [List.cons_append, List.nil_append]
  repeat' (first | with_reducible refine sw_in (by omega) ?_ | with_reducible (first | refine go1 ?_ | refine sct ?_ | refine scf ?_ | refine sgr ?_) | (with_reducible refine sc_cond (fun h => ?_) (fun h => ?_)) <;> (try (exfalso; first | contradiction | omega | exact h Iff.rfl)) | fail)
  focus
    have hi0 : i = 0 := by omega
    subst hi0
    rw [if_pos rfl]
    refine sw_idx 0 (by omega) ?_
    refine sw_loadAt (.slice a bs.length c) rfl ?_
    repeat' (first | with_reducible (first | refine go1 ?_ | refine sct ?_ | refine scf ?_ | refine sgr ?_) | fail)
    refine sc_loop (α := { j : Nat // j ≤ bs.length }) (fun j => [(3, .int .u32 (adF (bs.take j.1)).1), (4, .int .u32 (adF (bs.take j.1)).2), (9, .slice (some ⟨b, 0, none⟩) 1 1), (10, .int .i64 1), (11, .int .i64 ((0 : Nat) : Int)), (15, .slice a bs.length c), (16, .int .i64 bs.length), (17, .int .i64 (j.1 : Int))])
      (fun _ => (b, pts b (.cells [Value.slice a bs.length c].toArray 53 (0, 0))) :: (k, r) :: F) (fun j => bs.length - j.1) ⟨0, Nat.zero_le _⟩ ?_ ?_ ?_
    · repeat' (first | exact says_nil | refine says_cons rfl ?_ | refine says_cons (by simp) ?_)
    · exact Ent.refl _
    rintro ⟨j, hj⟩ e
    (try simp only at hj)
    simp only [List.cons_append, List.nil_append]
    repeat' (first | with_reducible refine sw_in (by omega) ?_ | with_reducible (first | refine go1 ?_ | refine sct ?_ | refine scf ?_ | refine sgr ?_) | (with_reducible refine sc_cond (fun h => ?_) (fun h => ?_)) <;> (try (exfalso; first | contradiction | omega | exact h Iff.rfl)) | fail)
    · have hj2 : j < bs.length := by omega
      obtain ⟨b2, o, rfl⟩ := hsome (by omega)
      have hrj : bs[j]? = some bs[j] := List.getElem?_eq_getElem hj2
      have hbj := hb bs[j] (List.getElem_mem hj2)
      have hF := adF_in (bs.take j)
      have hsn : adF (bs.take (j + 1)) = ad (adF (bs.take j)) bs[j] := by rw [List.take_add_one, hrj, Option.toList_some, adF_snoc]
      refine sw_index (by omega) ?_
      repeat' (first | with_reducible (first | refine go1 ?_ | refine sct ?_ | refine scf ?_ | refine sgr ?_) | fail)
      refine sw_load_rd k j (.int .u8 bs[j]) hr (by rw [List.getElem?_map, hrj]; rfl) (by simp) ?_
      generalize bs[j] = y at *
      repeat' (first | with_reducible refine sw_rem_nn (by omega) ?_ | with_reducible refine sw_in (by omega) ?_ | with_reducible (first | refine go1 ?_ | refine sct ?_ | refine scf ?_ | refine sgr ?_) | (with_reducible refine sc_cond (fun h => ?_) (fun h => ?_)) <;> (try (exfalso; first | contradiction | omega | exact h Iff.rfl)) | fail)
      refine sq_round ⟨j + 1, by omega⟩ ?_ ?_ ?_
      · show bs.length - (j + 1) < bs.length - j
        omega
      · dsimp only
        rw [hsn]
        unfold ad
        repeat' (first | exact says_nil | refine says_cons rfl ?_ | refine says_cons (by simp) ?_)
      · exact Ent.refl _
    · have hjl : j = bs.length := by omega
      subst hjl
      rw [List.take_length]
      repeat' (first | with_reducible refine sw_in (by omega) ?_ | with_reducible (first | refine go1 ?_ | refine sct ?_ | refine scf ?_ | refine sgr ?_) | fail)
      refine sq_round ⟨1, Nat.le_refl _⟩ ?_ ?_ ?_
      · show 1 - 1 < 1 - 0
        omega
      · repeat' (first | exact says_nil | refine says_cons rfl ?_ | refine says_cons (by simp) ?_)
      · exact Ent.refl _
  have hi1 : i = 1 := by omega
  subst hi1
  rw [if_neg (by omega)]
  have hF := adF_in bs
  refine sw_shlP (k := .u32) 16 65536 ⟨rfl, by decide, rfl⟩ (by omega) ?_
  repeat' (first | with_reducible (first | refine go1 ?_ | refine sct ?_ | refine scf ?_ | refine sgr ?_) | fail)
  rw [ior_u32_16 (by omega) (by omega) (by omega)]
  refine sq_ret1 Tryz.results75 ?_
  exact ⟨_, ⟨rfl, rfl⟩, Ent.refl _⟩
end Go.Gsl

namespace Go.Gsl
set_option linter.unusedVariables false
open Go.Proofs

/-- a sum's four bytes -/
def be4 (s : Int) : List Int := [s / 16777216 % 256, s / 65536 % 256, s / 256 % 256, s % 256]
def frame (bs : List Int) : List Int := intB bs.length ++ bs ++ be4 (adler bs)
theorem be4_byt (s : Int) : Byt (be4 s) := by
  intro x hx
  unfold be4 at hx
  simp only [List.mem_cons, List.not_mem_nil, or_false] at hx
  omega
theorem Byt.app {a b : List Int} (ha : Byt a) (hb : Byt b) : Byt (a ++ b) := fun x hx => by
  rcases List.mem_append.1 hx with h | h
  · exact ha x h
  · exact hb x h
theorem frame_byt {bs : List Int} (hb : Byt bs) : Byt (frame bs) := ((intB_byt _).app hb).app (be4_byt _)
theorem frame_len (bs : List Int) : (frame bs).length = width bs.length + bs.length + 4 := by
  unfold frame be4; simp [intB_len]; omega

set_option maxHeartbeats 1000000 in
theorem cFrame_ok (k : Nat) (r : HProp) (v : Value) (bs : List Int) (hv : RdB r v bs) (hb : Byt bs) (hl : bs.length ≤ 70368744177664) :
    Spec Tryz.prog 42 [v] [k] [r] fun F w Rs' => (1048576 < bs.length ∧ w = .tuple #[.slice none 0 0, .int .i64 3] ∧ Rs' = (k, r) :: F) ∨
      (bs.length ≤ 1048576 ∧ ∃ b t, w = .tuple #[.slice (some ⟨b, 0, none⟩) (frame bs).length ((frame bs).length + t.length), .int .i64 0] ∧ Rs' = (b, pts b (.cells ((frame bs).map (Value.int .u8) ++ t).toArray 5 (0, 0))) :: (k, r) :: F) := by
  refine spec_of Tryz.func42 rfl Tryz.ntmps42 rfl ?_
  intro w0 F
  obtain ⟨a, c, rfl, hsome, hc, hr⟩ := hv.gen
  repeat' (first | with_reducible (first | refine go1 ?_ | refine sct ?_ | refine scf ?_ | refine sgr ?_) | (with_reducible refine sc_cond (fun h => ?_) (fun h => ?_)) <;> (try (exfalso; first | contradiction | omega | exact h Iff.rfl)) | fail)
  · refine sq_ret2 Tryz.results42 ?_
    exact ⟨_, .inl ⟨by omega, rfl, rfl⟩, Ent.refl _⟩
  · refine sw_buildSlice [.slice a bs.length c] (by omega) rfl fun b1 => ?_
    have hA := adler_in bs
    have hw := width_in bs.length
    have hil := intB_len bs.length
    repeat' (first | with_reducible (first | refine go1 ?_ | refine sct ?_ | refine scf ?_ | refine sgr ?_) | ((with_reducible refine sw_call (cSum_ok b1 k r _ bs hv hb (by omega)) ?_); rintro _ _ ⟨rfl, rfl⟩) | fail)
    refine sw_call (cPutInt_ok k r (.slice none 0 0) [] bs.length .nil (by simp) (by omega)) ?_
    rintro _ _ ⟨b2, t2, rfl, rfl⟩
    simp only [List.nil_append]
    repeat' (first | with_reducible (first | refine go1 ?_ | refine sct ?_ | refine scf ?_ | refine sgr ?_) | fail)
    refine sw_append (src := bs.map (Value.int .u8)) (fun w hw => hr.sat (k := k) hw) (one_ints _ _) ⟨by omega, by rw [List.length_append, List.length_map], by rw [List.length_map], by omega, by omega⟩ fun b3 t3 => ?_
    rw [List.take_left' (by rw [List.length_map])]
    repeat' (first | with_reducible (first | refine go1 ?_ | refine sct ?_ | refine scf ?_ | refine sgr ?_) | fail)
    refine sw_shrP (k := .u32) 24 16777216 ⟨rfl, by decide, by omega, rfl⟩ ?_
    repeat' (first | with_reducible (first | refine go1 ?_ | refine sct ?_ | refine scf ?_ | refine sgr ?_) | fail)
    refine sw_shrP (k := .u32) 16 65536 ⟨rfl, by decide, by omega, rfl⟩ ?_
    repeat' (first | with_reducible (first | refine go1 ?_ | refine sct ?_ | refine scf ?_ | refine sgr ?_) | fail)
    refine sw_shrP (k := .u32) 8 256 ⟨rfl, by decide, by omega, rfl⟩ ?_
    repeat' (first | with_reducible (first | refine go1 ?_ | refine sct ?_ | refine scf ?_ | refine sgr ?_) | fail)
    simp only [wrap_u8_mod]
    refine sw_buildSlice ((be4 (adler bs)).map (Value.int .u8)) (by omega) rfl fun b4 => ?_
    refine sw_append (src := (be4 (adler bs)).map (Value.int .u8)) src_pts0 (one_ints _ _) ⟨by omega, by simp only [List.length_append, List.length_map], by rw [List.length_map]; rfl, by omega, by omega⟩ fun b5 t5 => ?_
    rw [List.take_left' (by simp only [List.length_append, List.length_map])]
    repeat' (first | with_reducible (first | refine go1 ?_ | refine sct ?_ | refine scf ?_ | refine sgr ?_) | fail)
    refine sq_ret2 Tryz.results42 ?_
    refine ⟨_, .inr ⟨by omega, b5, t5, ?_, rfl⟩, ?_⟩
    · rw [frame_len, hil]
    · unfold frame
      rw [List.map_append, List.map_append]
      repeat' (first | with_reducible exact Ent.refl _ | with_reducible refine Ent.take_eq ?_ ?_ | rfl | with_reducible refine Ent.trans (Ent.drop _ _) ?_)

theorem takeK_ok {k : Nat} {g : Int → Int} {neg : Bool} {r : List Int} (hg : Byt ((r.take k).map g)) (hk : k ≤ 8) (h : (takeK k g neg r).2.2 = 0) :
    (takeK k g neg r).2.1 = 1 + k ∧ k ≤ r.length ∧ -9223372036854775808 ≤ (takeK k g neg r).1 ∧ (takeK k g neg r).1 ≤ 9223372036854775807 := by
  have hlt := ofBE_lt (r.take k |>.map g).length _ rfl hg
  unfold takeK at h ⊢
  generalize ofBE ((r.take k).map g) = u at *
  by_cases h1 : r.length < k
  · rw [if_pos h1] at h; simp at h
  · rw [if_neg h1] at h ⊢
    by_cases h2 : 9223372036854775807 < u ∨ width (if neg then -u - 1 else u) ≠ 1 + k
    · rw [if_pos h2] at h; simp at h
    · rw [if_neg h2]
      refine ⟨rfl, by omega, ?_⟩
      simp only
      split <;> omega
theorem takeInt_ok {bs : List Int} (hb : Byt bs) (h : (takeInt bs).2.2 = 0) : 1 ≤ (takeInt bs).2.1 ∧ (takeInt bs).2.1 ≤ 9 ∧ (takeInt bs).2.1 ≤ bs.length ∧ -9223372036854775808 ≤ (takeInt bs).1 ∧ (takeInt bs).1 ≤ 9223372036854775807 := by
  cases bs with
  | nil => simp [takeInt] at h
  | cons hd r =>
    have hbh := hb hd (by simp)
    have hbr : Byt r := fun x hx => hb x (by simp [hx])
    rw [takeInt_cons] at h ⊢
    simp only [List.length_cons]
    split at h
    · simp at h
    · rw [if_neg ‹_›]
      split at h
      · rw [if_pos ‹_›]
        have := takeK_ok (k := (hd - 208).toNat) (g := fun a => a) (neg := false) (r := r) (fun x hx => by
          obtain ⟨y, hy, rfl⟩ := List.mem_map.1 hx
          exact hbr y (List.mem_of_mem_take hy)) (by omega) h
        omega
      · rw [if_neg ‹_›]
        split at h
        · rw [if_pos ‹_›]
          have := takeK_ok (k := (8 - hd).toNat) (g := fun a => 255 - a) (neg := true) (r := r) (fun x hx => by
            obtain ⟨y, hy, rfl⟩ := List.mem_map.1 hx
            have := hbr y (List.mem_of_mem_take hy)
            (try simp only); omega) (by omega) h
          omega
        · rw [if_neg ‹_›]
          simp only
          omega

def unfrK (n : Int) (k : Nat) (bs : List Int) : Int × List Int × Int :=
  if n < 0 then (11, [], 0) else if 1048576 < n then (3, [], 0) else if (bs.length : Int) - k - 4 < n then (10, [], 0)
  else if adler ((bs.drop k).take n.toNat) ≠ ofBE ((bs.drop (k + n.toNat)).take 4) then (12, [], 0) else (0, (bs.drop k).take n.toNat, k + n + 4)
/-- what is wrong with a frame, the bytes in it, where it ends -/
def unfr (bs : List Int) : Int × List Int × Int := if (takeInt bs).2.2 ≠ 0 then ((takeInt bs).2.2, [], 0) else unfrK (takeInt bs).1 (takeInt bs).2.1.toNat bs

theorem Reads.shift {r : HProp} {b o : Nat} {xs ys : List Value} (h : Reads r (some ⟨b, o, none⟩) xs) (i : Nat) (hy : ∀ j v, ys[j]? = some v → xs[i + j]? = some v) : Reads r (some ⟨b, o + i, none⟩) ys := fun hp w hr hf j v hj => by
  obtain ⟨ad, ha, hc⟩ := h hp w hr hf (i + j) v (hy j v hj)
  cases ha
  refine ⟨_, rfl, ?_⟩
  rw [← hc]
  rw [add_plain, add_plain, Nat.add_assoc]
theorem RdB.sub {r : HProp} {b o c : Nat} {bs : List Int} (hc : bs.length ≤ c) (hr : Reads r (some ⟨b, o, none⟩) (bs.map (Value.int .u8))) (K N : Nat) (h : K + N ≤ bs.length) : RdB r (.slice (some ⟨b, o + K, none⟩) ((bs.drop K).take N).length (c - K)) ((bs.drop K).take N) := by
  refine .row b (o + K) (c - K) _ (by rw [List.length_take, List.length_drop]; omega) (hr.shift K fun j v hj => ?_)
  rw [List.getElem?_map, List.getElem?_take] at hj
  split at hj
  · rwa [List.getElem?_drop, ← List.getElem?_map] at hj
  · cases hj
theorem Byt.sub {bs : List Int} (h : Byt bs) (K N : Nat) : Byt ((bs.drop K).take N) := fun x hx => h x (List.mem_of_mem_drop (List.mem_of_mem_take hx))

set_option maxHeartbeats 1000000 in
theorem cUnframe_ok (k : Nat) (r : HProp) (v : Value) (bs : List Int) (hv : RdB r v bs) (hb : Byt bs) (hl : bs.length ≤ 70368744177664) :
    Spec Tryz.prog 58 [v] [k] [r] fun F w Rs' => ((unfr bs).1 ≠ 0 ∧ w = .tuple #[.slice none 0 0, .int .i64 0, .int .i64 (unfr bs).1] ∧ Rs' = (k, r) :: F) ∨
      ((unfr bs).1 = 0 ∧ ∃ b t, w = .tuple #[.slice (some ⟨b, 0, none⟩) (unfr bs).2.1.length ((unfr bs).2.1.length + t.length), .int .i64 (unfr bs).2.2, .int .i64 0] ∧ Rs' = (b, pts b (.cells ((unfr bs).2.1.map (Value.int .u8) ++ t).toArray 5 (0, 0))) :: (k, r) :: F) := by
  refine spec_of Tryz.func58 rfl Tryz.ntmps58 rfl ?_
  intro w0 F
  obtain ⟨a, c, rfl, hsome, hc, hr⟩ := hv.gen
  have htk := takeInt_ok hb
  repeat' (first | with_reducible (first | refine go1 ?_ | refine sct ?_ | refine scf ?_ | refine sgr ?_) | ((with_reducible refine sw_call (cInt_ok k r _ bs hv hb (by omega)) ?_); rintro _ _ ⟨rfl, rfl⟩) | fail)
  unfold unfr
  generalize takeInt bs = T at htk ⊢
  rcases T with ⟨n, K, e⟩
  simp only at htk ⊢
  rcases Classical.em (e = 0) with rfl | he
  · obtain ⟨h1, h2, h3, h4, h5⟩ := htk rfl
    clear htk
    rw [if_neg (by omega)]
    obtain ⟨K, rfl⟩ : ∃ K' : Nat, K = K' := ⟨K.toNat, by omega⟩
    rw [Int.toNat_natCast]
    obtain ⟨b, o, rfl⟩ := hsome (by omega)
    unfold unfrK
    repeat' (first | with_reducible refine sw_in (by omega) ?_ | with_reducible (first | refine go1 ?_ | refine sct ?_ | refine scf ?_ | refine sgr ?_) | (with_reducible refine sc_cond (fun h => ?_) (fun h => ?_)) <;> (try (exfalso; first | contradiction | omega | exact h Iff.rfl)) | fail)
    · rw [if_pos h]
      refine sq_ret3 Tryz.results58 ?_
      exact ⟨_, .inl ⟨by decide, rfl, rfl⟩, Ent.refl _⟩
    · rw [if_neg (by omega), if_pos (by omega)]
      refine sq_ret3 Tryz.results58 ?_
      exact ⟨_, .inl ⟨by decide, rfl, rfl⟩, Ent.refl _⟩
    · rw [if_neg (by omega), if_neg (by omega), if_pos (by omega)]
      refine sq_ret3 Tryz.results58 ?_
      exact ⟨_, .inl ⟨by decide, rfl, rfl⟩, Ent.refl _⟩
    · rw [if_neg (by omega), if_neg (by omega), if_neg (by omega)]
      obtain ⟨N, rfl⟩ : ∃ N : Nat, n = N := ⟨n.toNat, by omega⟩
      rw [Int.toNat_natCast]
      have hfit : K + N + 4 ≤ bs.length := by omega
      refine sw_slice (K + N) (K + N + 4) c (o + (K + N)) (by omega) ⟨by omega, by omega, rfl, by rw [if_neg (by omega)]⟩ ?_
      have hNl : ((bs.drop K).take N).length = N := by rw [List.length_take, List.length_drop]; omega
      repeat' (first | with_reducible (first | refine go1 ?_ | refine sct ?_ | refine scf ?_ | refine sgr ?_) | fail)
      refine sc_loop (α := { i : Nat // i ≤ 4 }) (fun i => [(0, .slice (some ⟨b, o, none⟩) bs.length c), (6, .int .i64 (K : Int)), (8, .int .i64 ((K : Int) + (N : Int))), (9, .int .u32 (ofBE ((bs.drop (K + N)).take i.1))), (43, .slice (some ⟨b, o + (K + N), none⟩) (K + N + 4 - (K + N)) (c - (K + N))), (44, .int .i64 4), (45, .int .i64 (i.1 : Int))])
        (fun _ => (k, r) :: F) (fun i => 4 - i.1) ⟨0, Nat.zero_le _⟩ ?_ ?_ ?_
      · refine says_cons rfl (says_cons rfl (says_cons rfl (says_cons rfl (says_cons rfl (says_cons ?_ (says_cons rfl says_nil))))))
        have h4 : ((K + N + 4 - (K + N) : Nat) : Int) = 4 := by omega
        rw [← h4]
      · exact Ent.refl _
      · rintro ⟨i, hi⟩ e
        (try simp only at hi)
        simp only [List.cons_append, List.nil_append]
        repeat' (first | with_reducible refine sw_in (by omega) ?_ | with_reducible (first | refine go1 ?_ | refine sct ?_ | refine scf ?_ | refine sgr ?_) | (with_reducible refine sc_cond (fun h => ?_) (fun h => ?_)) <;> (try (exfalso; first | contradiction | omega | exact h Iff.rfl)) | fail)
        · have hi2 : K + N + i < bs.length := by omega
          have hri : bs[K + N + i]? = some bs[K + N + i] := List.getElem?_eq_getElem hi2
          have hbi := hb bs[K + N + i] (List.getElem_mem hi2)
          have hU := ofBE_lt i ((bs.drop (K + N)).take i) (by rw [List.length_take, List.length_drop]; omega) (hb.sub _ _)
          have hp : (256 ^ i : Nat) ≤ 16777216 := Nat.le_trans (Nat.pow_le_pow_right (by omega) (show i ≤ 3 by omega)) (by decide)
          have hsn : ofBE ((bs.drop (K + N)).take (i + 1)) = ofBE ((bs.drop (K + N)).take i) * 256 + bs[K + N + i] := by
            rw [List.take_add_one, List.getElem?_drop, hri, Option.toList_some, ofBE_snoc]
          refine sw_index (by omega) ?_
          refine sw_load_rd k (K + N + i) (.int .u8 bs[K + N + i]) hr (by rw [List.getElem?_map, hri]; rfl) (by omega) ?_
          generalize bs[K + N + i] = y at *
          repeat' (first | with_reducible (first | refine go1 ?_ | refine sct ?_ | refine scf ?_ | refine sgr ?_) | fail)
          refine sw_shlP (k := .u32) 8 256 ⟨rfl, by decide, rfl⟩ (by omega) ?_
          repeat' (first | with_reducible refine sw_in (by omega) ?_ | with_reducible (first | refine go1 ?_ | refine sct ?_ | refine scf ?_ | refine sgr ?_) | fail)
          rw [ior_u32 (by omega) hbi (by omega)]
          refine sq_round ⟨i + 1, by omega⟩ ?_ ?_ ?_
          · show 4 - (i + 1) < 4 - i
            omega
          · dsimp only
            rw [hsn]
            repeat' (first | exact says_nil | refine says_cons rfl ?_ | refine says_cons (by simp) ?_)
          · exact Ent.refl _
        · have hi4 : i = 4 := by omega
          subst hi4
          refine sw_slice K (K + N) c (o + K) (by omega) ⟨by omega, by omega, rfl, by split <;> omega⟩ ?_
          have hKN : K + N - K = ((bs.drop K).take N).length := by omega
          rw [hKN]
          refine sw_buildSlice [.slice (some ⟨b, o + K, none⟩) ((bs.drop K).take N).length (c - K)] (by omega) rfl fun b1 => ?_
          have hsub := RdB.sub hc hr K N (by omega)
          repeat' (first | with_reducible (first | refine go1 ?_ | refine sct ?_ | refine scf ?_ | refine sgr ?_) | ((with_reducible refine sw_call (cSum_ok b1 k r _ ((bs.drop K).take N) hsub (hb.sub K N) (by omega)) ?_); rintro _ _ ⟨rfl, rfl⟩) | (with_reducible refine sc_cond (fun h => ?_) (fun h => ?_)) <;> (try (exfalso; first | contradiction | omega | exact h Iff.rfl)) | fail)
          · rw [if_pos h]
            refine sq_ret3 Tryz.results58 ?_
            refine ⟨_, .inl ⟨by decide, rfl, rfl⟩, ?_⟩
            repeat' (first | with_reducible exact Ent.refl _ | with_reducible refine Ent.take_eq ?_ ?_ | rfl | with_reducible refine Ent.trans (Ent.drop _ _) ?_)
          · rw [if_neg h]
            refine sw_slice K (K + N) c (o + K) (by omega) ⟨by omega, by omega, rfl, by split <;> omega⟩ ?_
            rw [hKN]
            obtain ⟨a2, c2, ha2, hs2, hc2, hr2⟩ := hsub.gen
            cases ha2
            repeat' (first | with_reducible (first | refine go1 ?_ | refine sct ?_ | refine scf ?_ | refine sgr ?_) | fail)
            refine sw_call (clB_ok k r _ ((bs.drop K).take N).length (c - K) (((bs.drop K).take N).map (Value.int .u8)) hr2 (one_ints _ _) (by rw [List.length_map]) (by omega)) ?_
            rintro _ _ (⟨h0, _⟩ | ⟨_, b3, t3, rfl, rfl⟩)
            · cases h0
            repeat' (first | with_reducible refine sw_in (by omega) ?_ | with_reducible (first | refine go1 ?_ | refine sct ?_ | refine scf ?_ | refine sgr ?_) | fail)
            refine sq_ret3 Tryz.results58 ?_
            refine ⟨_, .inr ⟨rfl, b3, t3, rfl, rfl⟩, ?_⟩
            repeat' (first | with_reducible exact Ent.refl _ | with_reducible refine Ent.take_eq ?_ ?_ | rfl | with_reducible refine Ent.trans (Ent.drop _ _) ?_)
  · rw [if_pos he]
    repeat' (first | with_reducible (first | refine go1 ?_ | refine sct ?_ | refine scf ?_ | refine sgr ?_) | (with_reducible refine sc_cond (fun h => ?_) (fun h => ?_)) <;> (try (exfalso; first | contradiction | omega | exact h Iff.rfl)) | fail)
    refine sq_ret3 Tryz.results58 ?_
    exact ⟨_, .inl ⟨he, rfl, rfl⟩, Ent.refl _⟩
/-- bytes that came in -/
def RdBx (r : HProp) (v : Value) (bs : List Int) : Prop := ∃ a c, v = .slice a bs.length c ∧ bs.length ≤ c ∧ (0 < bs.length → ∃ b o, a = some ⟨b, o, none⟩) ∧ Reads r a (bs.map (Value.int .u8))
theorem RdB.bx {r : HProp} {v : Value} {bs : List Int} (h : RdB r v bs) : RdBx r v bs := by
  obtain ⟨a, c, h1, h2, h3, h4⟩ := h.gen
  exact ⟨a, c, h1, h3, h2, h4⟩
theorem RdBx.one {r : HProp} {v : Value} {bs : List Int} (h : RdBx r v bs) : One v := by
  obtain ⟨a, c, rfl, _⟩ := h
  exact ⟨rfl⟩

def I64 (x : Int) : Prop := -9223372036854775808 ≤ x ∧ x ≤ 9223372036854775807
def Stamp (x least : Int) : Prop := least ≤ x ∧ x ≤ 1099511627776
instance (x l : Int) : Decidable (Stamp x l) := inferInstanceAs (Decidable (_ ∧ _))
/-- a row being written, or none yet -/
def bufV (n : Nat) : Option (Nat × List Value) → Value
  | none => .slice none 0 0
  | some (b, t) => .slice (some ⟨b, 0, none⟩) n (n + t.length)
def bufR (t8 : TypeId) (bs : List Int) (F : List Res) : Option (Nat × List Value) → List Res
  | none => F
  | some (b, t) => (b, pts b (.cells (bs.map (Value.int .u8) ++ t).toArray t8 (0, 0))) :: F

theorem RdB.tail {r : HProp} {b o c : Nat} {bs : List Int} (hc : bs.length ≤ c) (hr : Reads r (some ⟨b, o, none⟩) (bs.map (Value.int .u8))) (at' : Nat) (h : at' ≤ bs.length) : RdB r (.slice (some ⟨b, if c = at' then o else o + at', none⟩) (bs.length - at') (c - at')) (bs.drop at') := by
  rw [← List.length_drop]
  refine .row b _ (c - at') _ (by rw [List.length_drop]; omega) ?_
  split
  · rw [List.drop_eq_nil_of_le (by omega)]
    exact reads_nil _ _
  · refine hr.shift at' fun j v hj => ?_
    rwa [List.getElem?_map, List.getElem?_drop, ← List.getElem?_map] at hj
end Go.Gsl
