/- What the disk's statements are handed. -/
import Derived.Test.YtbmdaiopnnmamaaGreatGD
import Derived.Test.YtbmdaiopnnmamaaGreatGA
import Derived.SizedLaws
import Derived.Test.YtbmdaiopnnmamaaGreatGB
namespace Go.Gsl
set_option linter.unusedVariables false
open Go.Proofs Go.RowKit Go.ChangeShapes Go.WideShapes

/-- one operation of a script -/
structure Op7 where
  d : Int
  at' : Int
  a : Int
  b : Int
  n : Int
  kv : Value
  keep : List Bool
  ov : Value
  odd : List Int

instance : Inhabited Op7 := ⟨⟨0, 0, 0, 0, 0, .slice none 0 0, [], .slice none 0 0, []⟩⟩
abbrev op7v (o : Op7) : List Value := [.int .i64 o.d, .int .i64 o.at', .int .u8 o.a, .int .u8 o.b, .int .i64 o.n, o.kv, o.ov]

/-- a slice that came in: its elements can be read -/
def RdW (W : World) (v : Value) (vs : List Value) : Prop := ∃ a c, v = .slice a vs.length c ∧ vs.length ≤ maxLen ∧ (0 < vs.length → ∃ b o, a = some ⟨b, o, none⟩) ∧ ∀ j u, vs[j]? = some u → ∃ ad, a = some ad ∧ W.cell? (ad.add j) = some u

theorem RdW.reads {W : World} {a : Option Addr} {m c : Nat} {vs : List Value} (h : RdW W (.slice a m c) vs) : m = vs.length ∧ (0 < vs.length → ∃ b o, a = some ⟨b, o, none⟩) ∧ Reads (ro W) a vs := by
  obtain ⟨a', c', e, _, h1, h2⟩ := h
  cases e
  exact ⟨rfl, h1, reads_ro h2⟩
theorem RdW.bools {W : World} {v : Value} {bs : List Bool} (h : RdW W v (bs.map Value.bool)) : RdBools (ro W) v bs := by
  obtain ⟨a, c, rfl, _, h1, h2⟩ := h
  rw [List.length_map] at h1 ⊢
  exact ⟨a, c, rfl, h1, reads_ro h2⟩

theorem RdW.one {W : World} {v : Value} {vs : List Value} (h : RdW W v vs) : One v := by
  obtain ⟨a, c, rfl, _⟩ := h
  exact ⟨rfl⟩

structure Op7.Wf (W : World) (o : Op7) : Prop where
  d : -9223372036854775808 ≤ o.d ∧ o.d ≤ 9223372036854775807
  at' : -9223372036854775808 ≤ o.at' ∧ o.at' ≤ 9223372036854775807
  a : 0 ≤ o.a ∧ o.a ≤ 255
  b : 0 ≤ o.b ∧ o.b ≤ 255
  n : -9223372036854775808 ≤ o.n ∧ o.n ≤ 9223372036854775807
  keep : RdW W o.kv (o.keep.map Value.bool)
  odd : RdW W o.ov (o.odd.map (Value.int .u8))
  oddb : ∀ x ∈ o.odd, 0 ≤ x ∧ x ≤ 255

def Ops7 (W : World) (a : Option Addr) (os : List Op7) : Prop :=
  ∀ k (h : k < os.length), os[k].Wf W ∧ ∃ b off, a = some ⟨b, off, none⟩ ∧ ∀ j v, (op7v os[k])[j]? = some v → W.cell? ⟨b, off + k * 7 + j, none⟩ = some v

theorem wf_i64 {n : Int} (h : (Lit.int .i64 n).wf = true) : -9223372036854775808 ≤ n ∧ n ≤ 9223372036854775807 := by
  simp only [Lit.wf, Bool.and_eq_true, decide_eq_true_eq] at h
  rw [show IntKind.i64.min = -9223372036854775808 from rfl, show IntKind.i64.max = 9223372036854775807 from rfl] at h
  exact h
theorem wf_u8 {n : Int} (h : (Lit.int .u8 n).wf = true) : 0 ≤ n ∧ n ≤ 255 := by
  simp only [Lit.wf, Bool.and_eq_true, decide_eq_true_eq] at h
  rw [show IntKind.u8.min = 0 from rfl, show IntKind.u8.max = 255 from rfl] at h
  exact h

section
variable {H : Type} {enc : TypeId × Value → H} {W : World} {base : Nat} {fuel : Nat}

/-- a slice among the cells of a struct, of elements of one cell -/
theorem cell_slice {P : Program} {t e : TypeId} {c : Value} {y : DataW H × List MemPlace} {α : Type} [Inhabited α] (E : α → Value) (pr : α → Prop) (hu : P.underlying t = some (.slice e)) (hc : P.cellsOf e = 1)
    (he : ∀ fuel c y, DataW.trod enc P W 0 (fun _ => true) true fuel e [c] = some y → ∃ x, c = E x ∧ pr x) (h : DataW.trod enc P W 0 (fun _ => true) true fuel t [c] = some y) : ∃ xs : List α, (∀ x ∈ xs, pr x) ∧ RdW W c (xs.map E) ∧ (xs = [] ∨ ∃ es sp, y.1 = .slice es sp ∧ es.length = xs.length) := by
  rcases Deep.open_slice hu h with ⟨hcs, _⟩ | ⟨a, len, cap, m, n, D, Pl, hcs, _, hl, hm, hme, hx, hel⟩
  · obtain rfl : c = .slice none 0 0 := by simpa using hcs
    exact ⟨[], by simp, ⟨none, 0, rfl, Nat.zero_le _, fun h => by simp at h, by simp⟩, .inl rfl⟩
  · obtain rfl : c = .slice (some a) len cap := by simpa using hcs
    simp only [if_true] at hme
    rw [hc] at hel
    have hch : ∀ i, i < len → ∃ x : α, pr x ∧ CellsAt W (a.add i) [E x] := by
      intro i hi
      obtain ⟨es, hes, hd⟩ := hel i (by omega)
      obtain ⟨h1, h2⟩ := cells_at hes
      match es, h1 with
      | [e0], _ =>
        obtain ⟨x, rfl, hp⟩ := he _ _ _ hd
        exact ⟨x, hp, by simpa using h2⟩
    obtain ⟨g, hg⟩ := Deep.choose_lt hch
    refine ⟨(List.range len).map g, fun x hx => ?_, ⟨some a, cap, by simp, by simp; omega, fun h0 => ?_, fun j u hj => ?_⟩, .inr ⟨_, _, by rw [hx], by simp⟩⟩
    · obtain ⟨i, hi, rfl⟩ := List.mem_map.1 hx
      exact (hg i (List.mem_range.1 hi)).1
    · have h1 := (hg 0 (by simpa using h0)).2
      rw [show a.add 0 = a by simp [Addr.add]] at h1
      exact ⟨a.block, a.off, by rw [← cells_plain (m := 0) rfl h1]⟩
    · have hlt : j < len := by have := (List.getElem?_eq_some_iff.1 hj).1; simpa using this
      simp only [List.map_map, List.getElem?_map, List.getElem?_range hlt, Option.map_some, Function.comp, Option.some.injEq] at hj
      subst hj
      have h1 := (hg j hlt).2 0 (E (g j)) rfl
      refine ⟨a, rfl, ?_⟩
      have h0 := (hg 0 (by omega)).2
      rw [show a.add 0 = a by simp [Addr.add]] at h0
      have ha := cells_plain (m := 0) rfl h0
      rw [ha, add_plain] at h1 ⊢
      rw [add_plain] at h1
      simpa using h1

theorem l2cU8 : Tryz.prog.cellsOf 5 = 1 := by kernel_rfl
theorem l2cInt : Tryz.prog.cellsOf 3 = 1 := by kernel_rfl
theorem l2cBool : Tryz.prog.cellsOf 4 = 1 := by kernel_rfl
theorem l2cBools : Tryz.prog.cellsOf 37 = 1 := by kernel_rfl
theorem l2cBytes : Tryz.prog.cellsOf 36 = 1 := by kernel_rfl
set_option maxRecDepth 100000 in
theorem read_bools {v : Value} {d : DataW H} {p : List MemPlace} (ho : Value.okWide Tryz.prog W .any base 37 v) (h : DataW.Trod enc Tryz.prog W 0 (fun _ => true) true 37 v d p) :
    ∃ bs : List Bool, RdW W v (bs.map Value.bool) := by
  obtain ⟨a0, len, cap, rfl⟩ := okWide_slice Tryz.underlying37 ho
  obtain ⟨fuel, hf⟩ := h
  obtain ⟨bs, _, h, _⟩ := cell_slice (α := Bool) Value.bool (fun _ => True) Tryz.underlying37 l2cBool (fun fuel c y h => by obtain ⟨b, hb⟩ := cell_bool Tryz.underlying4 h; exact ⟨b, hb, trivial⟩) (by simpa [Value.cells] using hf)
  exact ⟨bs, h⟩
theorem l2bBool : Tryz.prog.bytesOf 4 = 1 := by kernel_rfl
set_option maxRecDepth 100000 in
theorem read_bools_sz {ts : List TypeId} {ds : List (DataW H)} {j : Nat} {v : Value} {d : DataW H} {p : List MemPlace} (hz : (DataW.weightsEach Tryz.prog ts ds).all (· ≤ reachBytes) = true) (ht : ts[j]? = some 37) (hd : ds[j]? = some d)
    (ho : Value.okWide Tryz.prog W .any base 37 v) (h : DataW.Trod enc Tryz.prog W 0 (fun _ => true) true 37 v d p) : ∃ bs : List Bool, RdW W v (bs.map Value.bool) ∧ bs.length ≤ 140737488355328 := by
  obtain ⟨a0, len, cap, rfl⟩ := okWide_slice Tryz.underlying37 ho
  obtain ⟨fuel, hf⟩ := h
  obtain ⟨bs, _, h, hs⟩ := cell_slice (α := Bool) Value.bool (fun _ => True) Tryz.underlying37 l2cBool (fun fuel c y h => by obtain ⟨b, hb⟩ := cell_bool Tryz.underlying4 h; exact ⟨b, hb, trivial⟩) (by simpa [Value.cells] using hf)
  refine ⟨bs, h, ?_⟩
  rcases hs with rfl | ⟨es, sp, he, hl⟩
  · simp
  · simp only at he
    subst he
    have h1 := sized_slice hz ht hd Tryz.underlying37
    rw [l2bBool] at h1
    have h2 := reachBytes_lt
    omega
end
end Go.Gsl

namespace Go.Gsl
set_option linter.unusedVariables false
open Go.Proofs Go.RowKit

theorem mergeS_none (ss : List (List Int)) : mergeS (fun _ => none) ss = ss := by
  refine List.ext_getElem? fun j => ?_
  unfold mergeS; rw [List.getElem?_mapIdx]
  cases ss[j]? <;> rfl
theorem mergeS_put {g : Int → Option (List Int)} {ss : List (List Int)} {a : Int} {xs : List Int} (h0 : 0 ≤ a) (h1 : a < ss.length) :
    mergeS (fun j => if j = a then some xs else g j) ss = (mergeS g ss).set a.toNat xs := by
  refine List.ext_getElem? fun j => ?_
  unfold mergeS
  rw [List.getElem?_set, List.getElem?_mapIdx, List.getElem?_mapIdx, List.length_mapIdx]
  by_cases hj : a.toNat = j
  · rw [if_pos hj, if_pos (by omega), List.getElem?_eq_getElem (show j < ss.length by omega)]
    have e : (j : Int) = a := by omega
    simp [e]
  · rw [if_neg hj]
    have e : (j : Int) ≠ a := by omega
    simp [e]

/-- a sector that lies for ever, whatever its slice's capacity -/
def Sc (v : Value) (xs : List Int) : HProp := fun h => ∃ b c r, v = .slice (some ⟨b, 0, none⟩) xs.length c ∧ imm b (.cells (xs.map (Value.int .u8) ++ r).toArray 5 (0, 0)) h
def Scs (vs : List Value) (ss : List (List Int)) : HProp := fun h => ∀ (i : Nat) (v : Value) (xs : List Int), vs[i]? = some v → ss[i]? = some xs → Sc v xs h
def ScD (f : Int → Option Value) (g : Int → Option (List Int)) : HProp := fun h => ∀ j, (f j).isSome = (g j).isSome ∧ ∀ v xs, f j = some v → g j = some xs → Sc v xs h
theorem Sec.sc {v : Value} {xs : List Int} {h : Hp} (hs : Sec v xs h) : Sc v xs h := by
  obtain ⟨b, r, hv, hi⟩ := hs
  exact ⟨b, _, r, hv, hi⟩
theorem Sc.left {v : Value} {xs : List Int} {x y : Hp} (h : Sc v xs x) : Sc v xs (hjoin x y) := by
  obtain ⟨b, c, r, hv, hi⟩ := h
  exact ⟨b, c, r, hv, imm_left hi⟩
theorem Sc.right {v : Value} {xs : List Int} {x y : Hp} (hd : hdisj x y) (h : Sc v xs y) : Sc v xs (hjoin x y) := by
  rw [hjoin_comm hd]; exact h.left
theorem Sc.fp {v : Value} {xs : List Int} {h : Hp} (hs : Sc v xs h) : Sc v xs (fpart h) := by
  obtain ⟨b, c, r, hv, hi⟩ := hs
  exact ⟨b, c, r, hv, imm_fpart hi⟩
theorem Sc.of_imm {b c : Nat} {xs : List Int} {r : List Value} {h : Hp} (hl : xs.length = 512) (hi : imm b (.cells (xs.map (Value.int .u8) ++ r).toArray 5 (0, 0)) h) : Sc (.slice (some ⟨b, 0, none⟩) 512 c) xs h := ⟨b, c, r, by rw [hl], hi⟩
theorem Zs.scs {us : List Value} {n : Nat} {h : Hp} (hz : Zs us h) : Scs us (List.replicate n (List.replicate 512 0)) h := fun i v xs hv hx => by
  rw [List.getElem?_replicate] at hx
  split at hx
  · cases hx; exact (hz v (List.mem_of_getElem? hv)).sc
  · cases hx
theorem Scs.add {k b c j : Nat} {vs : List Value} {ss : List (List Int)} {xs : List Int} {r : List Value} {F : List Res} (hl : xs.length = 512) :
    Ent ((k, Scs vs ss) :: (b, imm b (.cells (xs.map (Value.int .u8) ++ r).toArray 5 (0, 0))) :: F) ((k, Scs (vs.set j (.slice (some ⟨b, 0, none⟩) 512 c)) (ss.set j xs)) :: F) :=
  Ent.join fun x y hd hx hy i u ys hu hz => by
    rw [List.getElem?_set] at hu hz
    split at hu
    · rename_i e
      rw [if_pos e] at hz
      split at hu
      · split at hz
        · cases hu; cases hz; exact (Sc.of_imm hl hy).right hd
        · cases hz
      · cases hu
    · rename_i e
      rw [if_neg e] at hz
      exact (hx i u ys hu hz).left
theorem ScD.add {k b c : Nat} {f : Int → Option Value} {g : Int → Option (List Int)} {a : Int} {xs : List Int} {r : List Value} {F : List Res} (hl : xs.length = 512) :
    Ent ((k, ScD f g) :: (b, imm b (.cells (xs.map (Value.int .u8) ++ r).toArray 5 (0, 0))) :: F) ((k, ScD (mput f a (.slice (some ⟨b, 0, none⟩) 512 c)) (fun j => if j = a then some xs else g j)) :: F) :=
  Ent.join fun x y hd hx hy j => by
    obtain ⟨e1, e2⟩ := hx j
    simp only [mput]
    by_cases hj : j = a
    · simp only [hj, if_true]
      exact ⟨rfl, fun u ys hu hy2 => by cases hu; cases hy2; exact (Sc.of_imm hl hy).right hd⟩
    · simp only [hj, if_false]
      exact ⟨e1, fun u ys hu hz => (e2 u ys hu hz).left⟩

/-- the last of the sectors, by their places -/
structure Last (f : Int → Option Value) (vl : List Value) (n : Nat) : Prop where
  len : vl.length = n
  at' : ∀ i : Nat, i < n → vl[i]? = some ((f i).getD (.slice none 0 0))
theorem Last.put {f : Int → Option Value} {vl : List Value} {n : Nat} {a : Int} {v : Value} (h : Last f vl n) (h0 : 0 ≤ a) (h1 : a < n) : Last (mput f a v) (vl.set a.toNat v) n where
  len := by rw [List.length_set]; exact h.len
  at' := fun i hi => by
    rw [List.getElem?_set]
    unfold mput
    by_cases hj : a.toNat = i
    · rw [if_pos hj, if_pos (by have := h.len; omega)]
      have e : (i : Int) = a := by omega
      simp [e]
    · rw [if_neg hj, h.at' i hi]
      have e : (i : Int) ≠ a := by omega
      simp [e]
section
variable {P : Program} {ops : List Oper} {Q : Cont} {n : Nat} {w0 : World} {l : List Oper} {e : Env} {Rs F : List Res}
/-- a sector of the row -/
theorem sw_sec (k k' : Nat) {vs : List Value} {ss : List (List Int)} [t : Take Rs k (Scs vs ss) F] (i : Nat) {v : Value} {xs : List Int} (hv : vs[i]? = some v) (hx : ss[i]? = some xs)
    (q : ∀ b c r, v = .slice (some ⟨b, 0, none⟩) xs.length c → SW P ops Q n w0 l e ((k', imm b (.cells (xs.map (Value.int .u8) ++ r).toArray 5 (0, 0))) :: Rs)) : SW P ops Q n w0 l e Rs := by
  intro w hw
  obtain ⟨⟨b, c, r⟩, h1, h2⟩ := (hw.ent (Ent.dup_take (k := k) (k' := k') (r' := Sc v xs) fun _ hp => (hp i v xs hv hx).fp)).opn (α := Nat × Nat × List Value) (φ := fun y => v = .slice (some ⟨y.1, 0, none⟩) xs.length y.2.1)
    (p := fun y => imm y.1 (.cells (xs.map (Value.int .u8) ++ y.2.2).toArray 5 (0, 0))) (by rintro y ⟨b, c, r, hv, hi⟩; exact ⟨(b, c, r), hv, hi⟩)
  exact q b c r h1 w h2
/-- whether a sector was written since -/
theorem sw_last (k k' : Nat) {f : Int → Option Value} {g : Int → Option (List Int)} [t : Take Rs k (ScD f g) F] (i : Int) (h0 : f i = none → g i = none → SW P ops Q n w0 l e Rs)
    (q : ∀ b c r xs, f i = some (.slice (some ⟨b, 0, none⟩) xs.length c) → g i = some xs → SW P ops Q n w0 l e ((k', imm b (.cells (xs.map (Value.int .u8) ++ r).toArray 5 (0, 0))) :: Rs)) : SW P ops Q n w0 l e Rs := by
  cases hg : g i with
  | none =>
    intro w hw
    obtain ⟨⟨⟩, h1, h2⟩ := (hw.ent t.ent).opn (α := Unit) (φ := fun _ => f i = none) (p := fun _ => ScD f g) (by
      intro y hy
      refine ⟨(), ?_, hy⟩
      have := (hy i).1
      rw [hg] at this
      cases hf : f i with
      | none => rfl
      | some v => rw [hf] at this; cases this)
    exact h0 h1 hg w hw
  | some xs =>
    intro w hw
    obtain ⟨⟨b, c, r⟩, h1, h2⟩ := (hw.ent (Ent.dup_take (k := k) (k' := k') (r' := fun h => ∃ v, f i = some v ∧ Sc v xs h) fun _ hp => by
        obtain ⟨h1, h2⟩ := hp i
        rw [hg] at h1
        obtain ⟨v, hv⟩ := Option.isSome_iff_exists.1 h1
        exact ⟨v, hv, (h2 v xs hv hg).fp⟩)).opn (α := Nat × Nat × List Value) (φ := fun y => f i = some (.slice (some ⟨y.1, 0, none⟩) xs.length y.2.1))
      (p := fun y => imm y.1 (.cells (xs.map (Value.int .u8) ++ y.2.2).toArray 5 (0, 0))) (by rintro y ⟨v, hv, b, c, r, rfl, hi⟩; exact ⟨(b, c, r), hv, hi⟩)
    exact q b c r xs h1 hg w h2
end
theorem reads_irow {b : Nat} {xs r : List Value} {t : TypeId} {fr : Nat × Nat} : Reads (imm b (.cells (xs ++ r).toArray t fr)) (some ⟨b, 0, none⟩) xs :=
  reads_imm fun j v hj => by rw [Nat.zero_add, List.getElem?_append_left (List.getElem?_eq_some_iff.1 hj).1]; exact hj

abbrev rowB (b : Nat) (vs : List Value) : HProp := pts b (.cells vs.toArray 36 (0, 0))
theorem Zs.add {k b2 : Nat} {us : List Value} {F : List Res} : Ent ((k, Zs us) :: (b2, imm b2 (.cells (List.replicate 512 (Value.int .u8 0)).toArray 5 (0, 0))) :: F) ((k, Zs (us ++ [Value.slice (some ⟨b2, 0, none⟩) 512 512])) :: F) :=
  Ent.join fun x y hd hx hy v hv => by
    rcases List.mem_append.1 hv with h | h
    · exact (hx v h).left
    · rw [List.mem_singleton.1 h]
      refine Sec.right hd ⟨b2, [], by rw [List.length_replicate]; rfl, ?_⟩
      rw [List.map_replicate, List.append_nil]
      exact hy
theorem set_next {us : List Value} {m : Nat} {v z : Value} (h : us.length < m) : (us ++ List.replicate (m - us.length) z).set us.length v = (us ++ [v]) ++ List.replicate (m - (us ++ [v]).length) z := by
  rw [show m - us.length = (m - (us.length + 1)) + 1 by omega, List.replicate_succ, List.set_append_right _ _ (Nat.le_refl _), Nat.sub_self, List.set_cons_zero, List.append_assoc, List.length_append]; rfl
abbrev secR (b : Nat) (xs : List Int) (r : List Value) : Obj := .cells (xs.map (Value.int .u8) ++ r).toArray 5 (0, 0)

end Go.Gsl

namespace Go.Gsl
set_option linter.unusedVariables false
open Go.Proofs

/-- the same bytes -/
def Dk.same (s t : Dk) : Prop := s.sure.length = t.sure.length ∧ ∀ i : Nat, i < s.sure.length → s.now i = t.now i

set_option maxHeartbeats 400000 in
theorem dSame_ok (p1 p2 : Nat) (s t : Dk) : Spec Tryz.prog 22 [.pointer (some ⟨p1, 0, none⟩), .pointer (some ⟨p2, 0, none⟩)] [p1, p2] [DISK p1 s, DISK p2 t]
    fun F v Rs' => ∃ b : Bool, (b = true ↔ s.same t) ∧ v = .bool b ∧ Rs' = (p1, DISK p1 s) :: (p2, DISK p2 t) :: F := by
  refine spec_of Tryz.func22 rfl Tryz.ntmps22 rfl ?_
  intro w0 F
  refine DISK.sc (p := p1) (s := s) fun x hx => ?_
  unfold DISKl
  refine DISK.sc (p := p2) (s := t) fun y hy => ?_
  unfold DISKl
  repeat' (first | with_reducible (first | refine sw_op ?_ | refine sw_op_ ?_) | with_reducible (first | refine sw_nil ?_ | refine sq_then ?_ | refine sc_seq ?_ | refine sc_region ?_ | refine sw_guard_skip ?_ | refine sw_guard_skip_ ?_ | refine sw_guard_run ?_ | refine sc_cond_true ?_ | refine sc_cond_false ?_ | refine sc_ret ?_ | refine sq_then_ret ?_ | refine sc_skip ?_ | refine sc_block ?_ | refine sq_block ?_ | refine sq_block_ret ?_ | refine sc_exit ?_ | refine sq_then_exit ?_ | refine sq_block_exit ?_ | refine sq_block_past ?_ | refine sq_round_ret ?_ | refine sq_round_exit ?_) | fail)
  refine sc_drawC (m := 19) ([(p1, pts p1 (drow x.bS x.vs.length (x.vs.length + x.r.length) x.m s.down s.calls s.fuse x.kv)), (p2, pts p2 (drow y.bS y.vs.length (y.vs.length + y.r.length) y.m t.down t.calls t.fuse y.kv))]) (by repeat' (first | with_reducible exact calm_post | with_reducible refine Calm.then ?_ | with_reducible refine Calm.block ?_ | with_reducible refine Calm.round ?_ | with_reducible refine Calm.mark ?_)) (by kernel_rfl) rfl (fun hcalm => ?_)
  all_goals (first | refine sg_take 0 hcalm rfl (by kernel_rfl) (by kernel_rfl) (by kernel_rfl) ?_)
  all_goals (refine sg_one 1 rfl (by kernel_rfl) rfl ?_)
  all_goals (repeat' (first | with_reducible (first | refine sw_op ?_ | refine sw_op_ ?_) | ((with_reducible refine sw_call (dNone_raw _ _ _ _ _ _ _ _ _) ?_); rintro _ _ ⟨rfl, rfl⟩) | with_reducible refine sg_back ?_ | with_reducible (first | refine sw_nil ?_ | refine sq_then ?_ | refine sc_seq ?_ | refine sc_region ?_ | refine sw_guard_skip ?_ | refine sw_guard_skip_ ?_ | refine sw_guard_run ?_ | refine sc_cond_true ?_ | refine sc_cond_false ?_ | refine sc_ret ?_ | refine sq_then_ret ?_ | refine sc_skip ?_ | refine sc_block ?_ | refine sq_block ?_ | refine sq_block_ret ?_ | refine sc_exit ?_ | refine sq_then_exit ?_ | refine sq_block_exit ?_ | refine sq_block_past ?_ | refine sq_round_ret ?_ | refine sq_round_exit ?_) | fail))
  all_goals (first | refine sg_take 2 hcalm rfl (by kernel_rfl) (by kernel_rfl) (by kernel_rfl) ?_)
  all_goals (first | (first | refine sg_skip 3 hcalm rfl (by kernel_rfl) (by kernel_rfl) (by kernel_rfl) ?_ | refine sg_take_g 3 hcalm rfl (by kernel_rfl) (by kernel_rfl) (by kernel_rfl) ?_) | refine sg_skip_u 3 hcalm rfl (by kernel_rfl) (by kernel_rfl) (by kernel_rfl) ?_ | ((refine sg_split 8 (fun h => ?_) (fun h => ?_)) <;> (try (exfalso; first | contradiction | omega | exact h Iff.rfl)) <;> (first | refine sg_skip 3 hcalm rfl (by kernel_rfl) (by kernel_rfl) (by kernel_rfl) ?_ | refine sg_take_g 3 hcalm rfl (by kernel_rfl) (by kernel_rfl) (by kernel_rfl) ?_)))
  all_goals (refine sg_one 4 rfl (by kernel_rfl) rfl ?_)
  all_goals (repeat' (first | with_reducible (first | refine sw_op ?_ | refine sw_op_ ?_) | ((with_reducible refine sw_call (dNone_raw _ _ _ _ _ _ _ _ _) ?_); rintro _ _ ⟨rfl, rfl⟩) | with_reducible refine sg_back ?_ | with_reducible (first | refine sw_nil ?_ | refine sq_then ?_ | refine sc_seq ?_ | refine sc_region ?_ | refine sw_guard_skip ?_ | refine sw_guard_skip_ ?_ | refine sw_guard_run ?_ | refine sc_cond_true ?_ | refine sc_cond_false ?_ | refine sc_ret ?_ | refine sq_then_ret ?_ | refine sc_skip ?_ | refine sc_block ?_ | refine sq_block ?_ | refine sq_block_ret ?_ | refine sc_exit ?_ | refine sq_then_exit ?_ | refine sq_block_exit ?_ | refine sq_block_past ?_ | refine sq_round_ret ?_ | refine sq_round_exit ?_) | fail))
  all_goals (first | refine sg_take 5 hcalm rfl (by kernel_rfl) (by kernel_rfl) (by kernel_rfl) ?_ | ((refine sg_split 8 (fun h => ?_) (fun h => ?_)) <;> (try (exfalso; first | contradiction | omega | exact h Iff.rfl)) <;> refine sg_take 5 hcalm rfl (by kernel_rfl) (by kernel_rfl) (by kernel_rfl) ?_))
  all_goals (first | refine sg_take 6 hcalm rfl (by kernel_rfl) (by kernel_rfl) (by kernel_rfl) ?_)
  all_goals (first | (first | refine sg_skip 7 hcalm rfl (by kernel_rfl) (by kernel_rfl) (by kernel_rfl) ?_ | refine sg_take_g 7 hcalm rfl (by kernel_rfl) (by kernel_rfl) (by kernel_rfl) ?_) | refine sg_skip_u 7 hcalm rfl (by kernel_rfl) (by kernel_rfl) (by kernel_rfl) ?_ | ((refine sg_split 12 (fun h => ?_) (fun h => ?_)) <;> (try (exfalso; first | contradiction | omega | exact h Iff.rfl)) <;> (first | refine sg_skip 7 hcalm rfl (by kernel_rfl) (by kernel_rfl) (by kernel_rfl) ?_ | refine sg_take_g 7 hcalm rfl (by kernel_rfl) (by kernel_rfl) (by kernel_rfl) ?_)))
  all_goals (first | (first | refine sg_skip 8 hcalm rfl (by kernel_rfl) (by kernel_rfl) (by kernel_rfl) ?_ | refine sg_take_g 8 hcalm rfl (by kernel_rfl) (by kernel_rfl) (by kernel_rfl) ?_) | refine sg_skip_u 8 hcalm rfl (by kernel_rfl) (by kernel_rfl) (by kernel_rfl) ?_ | ((refine sg_split 12 (fun h => ?_) (fun h => ?_)) <;> (try (exfalso; first | contradiction | omega | exact h Iff.rfl)) <;> (first | refine sg_skip 8 hcalm rfl (by kernel_rfl) (by kernel_rfl) (by kernel_rfl) ?_ | refine sg_take_g 8 hcalm rfl (by kernel_rfl) (by kernel_rfl) (by kernel_rfl) ?_)))
  all_goals (first | (first | refine sg_skip 9 hcalm rfl (by kernel_rfl) (by kernel_rfl) (by kernel_rfl) ?_ | refine sg_take_g 9 hcalm rfl (by kernel_rfl) (by kernel_rfl) (by kernel_rfl) ?_) | refine sg_skip_u 9 hcalm rfl (by kernel_rfl) (by kernel_rfl) (by kernel_rfl) ?_ | ((refine sg_split 12 (fun h => ?_) (fun h => ?_)) <;> (try (exfalso; first | contradiction | omega | exact h Iff.rfl)) <;> (first | refine sg_skip 9 hcalm rfl (by kernel_rfl) (by kernel_rfl) (by kernel_rfl) ?_ | refine sg_take_g 9 hcalm rfl (by kernel_rfl) (by kernel_rfl) (by kernel_rfl) ?_)))
  all_goals (first | (first | refine sg_skip 10 hcalm rfl (by kernel_rfl) (by kernel_rfl) (by kernel_rfl) ?_ | refine sg_take_g 10 hcalm rfl (by kernel_rfl) (by kernel_rfl) (by kernel_rfl) ?_) | refine sg_skip_u 10 hcalm rfl (by kernel_rfl) (by kernel_rfl) (by kernel_rfl) ?_ | ((refine sg_split 12 (fun h => ?_) (fun h => ?_)) <;> (try (exfalso; first | contradiction | omega | exact h Iff.rfl)) <;> (first | refine sg_skip 10 hcalm rfl (by kernel_rfl) (by kernel_rfl) (by kernel_rfl) ?_ | refine sg_take_g 10 hcalm rfl (by kernel_rfl) (by kernel_rfl) (by kernel_rfl) ?_)))
  all_goals (first | (first | refine sg_skip 11 hcalm rfl (by kernel_rfl) (by kernel_rfl) (by kernel_rfl) ?_ | refine sg_take_g 11 hcalm rfl (by kernel_rfl) (by kernel_rfl) (by kernel_rfl) ?_) | refine sg_skip_u 11 hcalm rfl (by kernel_rfl) (by kernel_rfl) (by kernel_rfl) ?_ | ((refine sg_split 12 (fun h => ?_) (fun h => ?_)) <;> (try (exfalso; first | contradiction | omega | exact h Iff.rfl)) <;> (first | refine sg_skip 11 hcalm rfl (by kernel_rfl) (by kernel_rfl) (by kernel_rfl) ?_ | refine sg_take_g 11 hcalm rfl (by kernel_rfl) (by kernel_rfl) (by kernel_rfl) ?_)))
  all_goals (first | (first | refine sg_skip 12 hcalm rfl (by kernel_rfl) (by kernel_rfl) (by kernel_rfl) ?_ | refine sg_take_g 12 hcalm rfl (by kernel_rfl) (by kernel_rfl) (by kernel_rfl) ?_) | refine sg_skip_u 12 hcalm rfl (by kernel_rfl) (by kernel_rfl) (by kernel_rfl) ?_ | ((refine sg_split 12 (fun h => ?_) (fun h => ?_)) <;> (try (exfalso; first | contradiction | omega | exact h Iff.rfl)) <;> (first | refine sg_skip 12 hcalm rfl (by kernel_rfl) (by kernel_rfl) (by kernel_rfl) ?_ | refine sg_take_g 12 hcalm rfl (by kernel_rfl) (by kernel_rfl) (by kernel_rfl) ?_)))
  all_goals (first | (first | refine sg_skip 13 hcalm rfl (by kernel_rfl) (by kernel_rfl) (by kernel_rfl) ?_ | refine sg_take_g 13 hcalm rfl (by kernel_rfl) (by kernel_rfl) (by kernel_rfl) ?_) | refine sg_skip_u 13 hcalm rfl (by kernel_rfl) (by kernel_rfl) (by kernel_rfl) ?_ | ((refine sg_split 12 (fun h => ?_) (fun h => ?_)) <;> (try (exfalso; first | contradiction | omega | exact h Iff.rfl)) <;> (first | refine sg_skip 13 hcalm rfl (by kernel_rfl) (by kernel_rfl) (by kernel_rfl) ?_ | refine sg_take_g 13 hcalm rfl (by kernel_rfl) (by kernel_rfl) (by kernel_rfl) ?_)))
  all_goals (first | (first | refine sg_skip 14 hcalm rfl (by kernel_rfl) (by kernel_rfl) (by kernel_rfl) ?_ | refine sg_take_g 14 hcalm rfl (by kernel_rfl) (by kernel_rfl) (by kernel_rfl) ?_) | refine sg_skip_u 14 hcalm rfl (by kernel_rfl) (by kernel_rfl) (by kernel_rfl) ?_ | ((refine sg_split 12 (fun h => ?_) (fun h => ?_)) <;> (try (exfalso; first | contradiction | omega | exact h Iff.rfl)) <;> (first | refine sg_skip 14 hcalm rfl (by kernel_rfl) (by kernel_rfl) (by kernel_rfl) ?_ | refine sg_take_g 14 hcalm rfl (by kernel_rfl) (by kernel_rfl) (by kernel_rfl) ?_)))
  all_goals (first | (first | refine sg_skip 15 hcalm rfl (by kernel_rfl) (by kernel_rfl) (by kernel_rfl) ?_ | refine sg_take_g 15 hcalm rfl (by kernel_rfl) (by kernel_rfl) (by kernel_rfl) ?_) | refine sg_skip_u 15 hcalm rfl (by kernel_rfl) (by kernel_rfl) (by kernel_rfl) ?_ | ((refine sg_split 12 (fun h => ?_) (fun h => ?_)) <;> (try (exfalso; first | contradiction | omega | exact h Iff.rfl)) <;> (first | refine sg_skip 15 hcalm rfl (by kernel_rfl) (by kernel_rfl) (by kernel_rfl) ?_ | refine sg_take_g 15 hcalm rfl (by kernel_rfl) (by kernel_rfl) (by kernel_rfl) ?_)))
  all_goals (first | (first | refine sg_skip 16 hcalm rfl (by kernel_rfl) (by kernel_rfl) (by kernel_rfl) ?_ | refine sg_take_g 16 hcalm rfl (by kernel_rfl) (by kernel_rfl) (by kernel_rfl) ?_) | refine sg_skip_u 16 hcalm rfl (by kernel_rfl) (by kernel_rfl) (by kernel_rfl) ?_ | ((refine sg_split 12 (fun h => ?_) (fun h => ?_)) <;> (try (exfalso; first | contradiction | omega | exact h Iff.rfl)) <;> (first | refine sg_skip 16 hcalm rfl (by kernel_rfl) (by kernel_rfl) (by kernel_rfl) ?_ | refine sg_take_g 16 hcalm rfl (by kernel_rfl) (by kernel_rfl) (by kernel_rfl) ?_)))
  all_goals (first | (first | refine sg_skip 17 hcalm rfl (by kernel_rfl) (by kernel_rfl) (by kernel_rfl) ?_ | refine sg_take_g 17 hcalm rfl (by kernel_rfl) (by kernel_rfl) (by kernel_rfl) ?_) | refine sg_skip_u 17 hcalm rfl (by kernel_rfl) (by kernel_rfl) (by kernel_rfl) ?_ | ((refine sg_split 12 (fun h => ?_) (fun h => ?_)) <;> (try (exfalso; first | contradiction | omega | exact h Iff.rfl)) <;> (first | refine sg_skip 17 hcalm rfl (by kernel_rfl) (by kernel_rfl) (by kernel_rfl) ?_ | refine sg_take_g 17 hcalm rfl (by kernel_rfl) (by kernel_rfl) (by kernel_rfl) ?_)))
  all_goals (first | refine sg_take 18 hcalm rfl (by kernel_rfl) (by kernel_rfl) (by kernel_rfl) ?_ | ((refine sg_split 12 (fun h => ?_) (fun h => ?_)) <;> (try (exfalso; first | contradiction | omega | exact h Iff.rfl)) <;> refine sg_take 18 hcalm rfl (by kernel_rfl) (by kernel_rfl) (by kernel_rfl) ?_))
  all_goals (refine sg_done (by kernel_rfl) rfl ?_)
  have hlx := hx.len
  have hly := hy.len
  have hE : Ent ((p1, pts p1 (drow x.bS x.vs.length (x.vs.length + x.r.length) x.m s.down s.calls s.fuse x.kv)) :: (x.bS, pts x.bS (.cells (x.vs ++ x.r).toArray 36 (0, 0))) :: (x.m, MapI .i64 x.m x.f) :: (x.q, DPers x.vs x.f x.kv s) ::
      (p2, pts p2 (drow y.bS y.vs.length (y.vs.length + y.r.length) y.m t.down t.calls t.fuse y.kv)) :: (y.bS, pts y.bS (.cells (y.vs ++ y.r).toArray 36 (0, 0))) :: (y.m, MapI .i64 y.m y.f) :: (y.q, DPers y.vs y.f y.kv t) :: F) ((p1, DISK p1 s) :: (p2, DISK p2 t) :: F) :=
    Ent.trans (DISK.close hx) (Ent.cons _ (DISK.close hy))
  repeat' (first | with_reducible (first | refine sw_op ?_ | refine sw_op_ ?_) | with_reducible (first | refine sw_nil ?_ | refine sq_then ?_ | refine sc_seq ?_ | refine sc_region ?_ | refine sw_guard_skip ?_ | refine sw_guard_skip_ ?_ | refine sw_guard_run ?_ | refine sc_cond_true ?_ | refine sc_cond_false ?_ | refine sc_ret ?_ | refine sq_then_ret ?_ | refine sc_skip ?_ | refine sc_block ?_ | refine sq_block ?_ | refine sq_block_ret ?_ | refine sc_exit ?_ | refine sq_then_exit ?_ | refine sq_block_exit ?_ | refine sq_block_past ?_ | refine sq_round_ret ?_ | refine sq_round_exit ?_) | (with_reducible refine sc_cond (fun h => ?_) (fun h => ?_)) <;> (try (exfalso; first | contradiction | omega | exact h Iff.rfl)) | fail)
  · refine sq_ret1 Tryz.results22 ?_
    refine ⟨_, ⟨false, ⟨fun h => (by cases h), fun h2 => absurd h2.1 (by omega)⟩, rfl, rfl⟩, Ent.trans ?_ hE⟩
    repeat' (first | with_reducible exact Ent.refl _ | with_reducible refine Ent.take_eq ?_ ?_ | rfl | with_reducible refine Ent.trans (Ent.drop _ _) ?_)
  · refine sc_ent (Rs'' := (p1, DISK p1 s) :: (p2, DISK p2 t) :: F) (Ent.trans ?_ hE) ?_
    · repeat' (first | with_reducible exact Ent.refl _ | with_reducible refine Ent.take_eq ?_ ?_ | rfl | with_reducible refine Ent.trans (Ent.drop _ _) ?_)
    rw [hlx]
    refine DISK.scwf (p := p1) (s := s) fun hws => ?_
    refine DISK.scwf (p := p2) (s := t) fun hwt => ?_
    refine sc_loop (α := { i : Nat // i ≤ s.sure.length ∧ ∀ j : Nat, j < i → s.now j = t.now j }) (fun i => [(0, .pointer (some ⟨p1, 0, none⟩)), (1, .pointer (some ⟨p2, 0, none⟩)), (29, .int .i64 s.sure.length), (30, .int .i64 i.1)])
      (fun _ => (p1, DISK p1 s) :: (p2, DISK p2 t) :: F) (fun i => s.sure.length - i.1) ⟨0, Nat.zero_le _, fun j hj => by omega⟩ ?_ ?_ ?_
    · repeat' (first | exact says_nil | refine says_cons rfl ?_ | refine says_cons (by simp) ?_)
    · repeat' (first | with_reducible exact Ent.refl _ | with_reducible refine Ent.take_eq ?_ ?_ | rfl | with_reducible refine Ent.trans (Ent.drop _ _) ?_)
    rintro ⟨i, hi, hall⟩ e
    simp only [List.cons_append, List.nil_append]
    repeat' (first | with_reducible (first | refine sw_op ?_ | refine sw_op_ ?_) | with_reducible (first | refine sw_nil ?_ | refine sq_then ?_ | refine sc_seq ?_ | refine sc_region ?_ | refine sw_guard_skip ?_ | refine sw_guard_skip_ ?_ | refine sw_guard_run ?_ | refine sc_cond_true ?_ | refine sc_cond_false ?_ | refine sc_ret ?_ | refine sq_then_ret ?_ | refine sc_skip ?_ | refine sc_block ?_ | refine sq_block ?_ | refine sq_block_ret ?_ | refine sc_exit ?_ | refine sq_then_exit ?_ | refine sq_block_exit ?_ | refine sq_block_past ?_ | refine sq_round_ret ?_ | refine sq_round_exit ?_) | (with_reducible refine sc_cond (fun h => ?_) (fun h => ?_)) <;> (try (exfalso; first | contradiction | omega | exact h Iff.rfl)) | fail)
    · have hlt : i < s.sure.length := by omega
      have hn2 := hws.n2
      have w1 := Dk.now_wf hws (a := i) (by omega) (by omega)
      have w2 := Dk.now_wf hwt (a := i) (by omega) (by omega)
      refine sw_call (dNow_ok p1 s i (by omega) (by omega)) ?_
      rintro v1 _ ⟨q1, rfl⟩
      repeat' (first | with_reducible (first | refine sw_op ?_ | refine sw_op_ ?_) | with_reducible (first | refine sw_nil ?_ | refine sq_then ?_ | refine sc_seq ?_ | refine sc_region ?_ | refine sw_guard_skip ?_ | refine sw_guard_skip_ ?_ | refine sw_guard_run ?_ | refine sc_cond_true ?_ | refine sc_cond_false ?_ | refine sc_ret ?_ | refine sq_then_ret ?_ | refine sc_skip ?_ | refine sc_block ?_ | refine sq_block ?_ | refine sq_block_ret ?_ | refine sc_exit ?_ | refine sq_then_exit ?_ | refine sq_block_exit ?_ | refine sq_block_past ?_ | refine sq_round_ret ?_ | refine sq_round_exit ?_) | fail)
      refine sw_call (dNow_ok p2 t i (by omega) (by omega)) ?_
      rintro v2 _ ⟨q2, rfl⟩
      refine sw_opn (k := q1) (φ := fun c : Nat × List Value => v1 = .slice (some ⟨c.1, 0, none⟩) (s.now i).length ((s.now i).length + c.2.length)) (p := fun c => imm c.1 (.cells ((s.now i).map (Value.int .u8) ++ c.2).toArray 5 (0, 0))) (by rintro y ⟨b, r, hv, hi⟩; exact ⟨(b, r), hv, hi⟩) ?_
      rintro ⟨b1, r1⟩ rfl
      refine sw_opn (k := q2) (φ := fun c : Nat × List Value => v2 = .slice (some ⟨c.1, 0, none⟩) (t.now i).length ((t.now i).length + c.2.length)) (p := fun c => imm c.1 (.cells ((t.now i).map (Value.int .u8) ++ c.2).toArray 5 (0, 0))) (by rintro y ⟨b, r, hv, hi⟩; exact ⟨(b, r), hv, hi⟩) ?_
      rintro ⟨b2, r2⟩ rfl
      refine sw_call (eqB_ok q1 q2 _ _ b1 b2 _ _ _ _ (s.now i) (t.now i) reads_irow reads_irow rfl rfl (by rw [w1.len]; omega)) ?_
      rintro _ _ ⟨rfl, rfl⟩
      repeat' (first | with_reducible (first | refine sw_in (by omega) ?_ | refine sw_op ?_ | refine sw_op_ ?_) | with_reducible (first | refine sw_nil ?_ | refine sq_then ?_ | refine sc_seq ?_ | refine sc_region ?_ | refine sw_guard_skip ?_ | refine sw_guard_skip_ ?_ | refine sw_guard_run ?_ | refine sc_cond_true ?_ | refine sc_cond_false ?_ | refine sc_ret ?_ | refine sq_then_ret ?_ | refine sc_skip ?_ | refine sc_block ?_ | refine sq_block ?_ | refine sq_block_ret ?_ | refine sc_exit ?_ | refine sq_then_exit ?_ | refine sq_block_exit ?_ | refine sq_block_past ?_ | refine sq_round_ret ?_ | refine sq_round_exit ?_) | (with_reducible refine sc_cond (fun h => ?_) (fun h => ?_)) <;> (try (exfalso; first | contradiction | omega | exact h Iff.rfl)) | fail)
      · refine sq_ret1 Tryz.results22 ?_
        refine ⟨_, ⟨false, ⟨fun h => (by cases h), fun h2 => absurd (h2.2 i hlt) h⟩, rfl, rfl⟩, ?_⟩
        repeat' (first | with_reducible exact Ent.refl _ | with_reducible refine Ent.take_eq ?_ ?_ | rfl | with_reducible refine Ent.trans (Ent.drop _ _) ?_)
      · refine sq_round ⟨i + 1, hlt, fun j hj => ?_⟩ ?_ ?_ ?_
        · rcases Nat.lt_or_ge j i with h2 | h2
          · exact hall j h2
          · obtain rfl : j = i := by omega
            exact Decidable.not_not.1 h
        · show s.sure.length - (i + 1) < s.sure.length - i
          omega
        · repeat' (first | exact says_nil | refine says_cons rfl ?_ | refine says_cons (by simp) ?_)
        · repeat' (first | with_reducible exact Ent.refl _ | with_reducible refine Ent.take_eq ?_ ?_ | rfl | with_reducible refine Ent.trans (Ent.drop _ _) ?_)
    · refine sq_ret1 Tryz.results22 ?_
      exact ⟨_, ⟨true, ⟨fun _ => ⟨by omega, fun j hj => hall j (by omega)⟩, fun _ => rfl⟩, rfl, rfl⟩, by repeat' (first | with_reducible exact Ent.refl _ | with_reducible refine Ent.take_eq ?_ ?_ | rfl | with_reducible refine Ent.trans (Ent.drop _ _) ?_)⟩

theorem dWrite_ok0 (p k : Nat) (s : Dk) (r : HProp) (ad : Option Addr) (c : Nat) (a : Int) (xs : List Int) (hb : s.looks a = 0) (hx : SecWf xs) (hne : ad ≠ none) (hr : Reads r ad (xs.map (Value.int .u8))) (hf : s.fuse ≠ 1) : Spec Tryz.prog 27 [.pointer (some ⟨p, 0, none⟩), .int .i64 a, .slice ad 512 c] [p, k] [DISK p s, r]
    fun F v Rs' => v = .int .i64 0 ∧ Rs' = (p, DISK p (s.wrote a xs)) :: (k, r) :: F :=
  (dWrite_ok p k s r ad c a xs hb hx hne hr).mono fun F v Rs' h => by
    rcases h with ⟨_, h⟩ | ⟨h, _⟩
    · exact h
    · exact absurd h hf
theorem dWrite_ok1 (p k : Nat) (s : Dk) (r : HProp) (ad : Option Addr) (c : Nat) (a : Int) (xs : List Int) (hb : s.looks a = 0) (hx : SecWf xs) (hne : ad ≠ none) (hr : Reads r ad (xs.map (Value.int .u8))) (hf : s.fuse = 1) : Spec Tryz.prog 27 [.pointer (some ⟨p, 0, none⟩), .int .i64 a, .slice ad 512 c] [p, k] [DISK p s, r]
    fun F v Rs' => ∃ ks, KeysD (s.wrote a xs).dirty ks ∧ v = .int .i64 6 ∧ Rs' = (p, DISK p ((s.wrote a xs).gone ks s.keep)) :: (k, r) :: F :=
  (dWrite_ok p k s r ad c a xs hb hx hne hr).mono fun F v Rs' h => by
    rcases h with ⟨h, _⟩ | ⟨_, h1, ks, h2, h3⟩
    · exact absurd hf h
    · exact ⟨ks, h2, h1, h3⟩
theorem dBarrier_ok0 (p : Nat) (s : Dk) (hb : s.looks 0 = 0) (hf : s.fuse ≠ 1) : Spec Tryz.prog 68 [.pointer (some ⟨p, 0, none⟩)] [p] [DISK p s]
    fun F v Rs' => v = .int .i64 0 ∧ Rs' = (p, DISK p s.barred) :: F :=
  (dBarrier_ok p s hb).mono fun F v Rs' h => by
    rcases h with ⟨_, h⟩ | ⟨h, _⟩
    · exact h
    · exact absurd h hf
theorem dBarrier_ok1 (p : Nat) (s : Dk) (hb : s.looks 0 = 0) (hf : s.fuse = 1) : Spec Tryz.prog 68 [.pointer (some ⟨p, 0, none⟩)] [p] [DISK p s]
    fun F v Rs' => ∃ ks, KeysD s.dirty ks ∧ v = .int .i64 6 ∧ Rs' = (p, DISK p (s.met.gone ks s.keep)) :: F :=
  (dBarrier_ok p s hb).mono fun F v Rs' h => by
    rcases h with ⟨h, _⟩ | ⟨_, h1, ks, h2, h3⟩
    · exact absurd hf h
    · exact ⟨ks, h2, h1, h3⟩
end Go.Gsl

namespace Go.Gsl
set_option linter.unusedVariables false
open Go.Proofs Go.RowKit

/-- what is wanted still holds -/
def WantS (g : Int → Option (List Int)) (s : Dk) : Prop := ∀ i xs, g i = some xs → (0 ≤ i ∧ s.sure[i.toNat]? = some xs) ∧ s.dirty i = none
theorem WantS.start {s : Dk} (hw : s.Wf) : WantS s.dirty s.barred := fun i xs h => by
  have hd := hw.dat i xs h
  refine ⟨⟨hd.1, ?_⟩, rfl⟩
  show (mergeS s.dirty s.sure)[i.toNat]? = _
  unfold mergeS
  rw [List.getElem?_mapIdx, List.getElem?_eq_getElem (show i.toNat < s.sure.length by omega), Option.map_some, Int.toNat_of_nonneg hd.1, h]
  rfl
theorem WantS.write {g : Int → Option (List Int)} {s : Dk} {a : Int} {xs : List Int} (h : WantS g s) : WantS (fun j => if j = a then none else g j) (s.wrote a xs) := fun i ys hi => by
  simp only at hi
  split at hi
  · cases hi
  · rename_i hne
    obtain ⟨h1, h2⟩ := h i ys hi
    refine ⟨h1, ?_⟩
    show (if i = a then some xs else s.dirty i) = none
    rw [if_neg hne]; exact h2
theorem ScD.del {f : Int → Option Value} {g : Int → Option (List Int)} {a : Int} {h : Hp} (hs : ScD f g h) : ScD (mdel f a) (fun j => if j = a then none else g j) h := fun j => by
  obtain ⟨e1, e2⟩ := hs j
  simp only [mdel]
  by_cases hj : j = a
  · simp only [hj, if_true]
    exact ⟨rfl, fun v xs hv => by cases hv⟩
  · simp only [hj, if_false]
    exact ⟨e1, e2⟩

end Go.Gsl

namespace Go.Gsl
set_option linter.unusedVariables false
open Go.Proofs Go.RowKit

section
variable {P : Program} {ops : List Oper} {Q : Cont} {n : Nat} {w0 : World} {rest : List Oper} {e : Env} {Rs F : List Res} {ty : TypeId}
/-- append(s, x...), s being nil and nothing coming -/
theorem sw_append_nil0 {d m : Nat} {t el : TypeId} {nb : Nat} {x y : Operand} {z : Value} {c' : Nat} {a : Option Addr} {pos : String} {after : Array Edge}
    [hx : Ev n e x (.slice none 0 0)] [hy : Ev n e y (.slice a m c')] [he : Elem P t el 1 nb z] (hm : m = 0)
    (k : SW P ops Q n w0 rest ((d, .slice none 0 0) :: e) Rs) :
    SW P ops Q n w0 ({ dst := some d, op := .call { callee := .builtin .append, args := [x, y].toArray, argTypes := [t, t].toArray }, type := ty, pos := pos, after := after, guard := none } :: rest) e Rs := by
  intro w hw
  subst hm
  obtain ⟨i0, hi, hz0, hz1, hz2⟩ := info_parts he.info
  have hf : ∀ ad : Addr, (Builtin.firstCells i0.size 0 (.slice (some ad) 0 c')).run P w = .ok #[] w := fun ad => run_firstCells_some w i0.size 0 ad 0 c' [] (by simp) (by simp)
  have hr : (Builtin.append_ #[t, t] ty #[.slice none 0 0, .slice a 0 c']).run P w = .ok (.slice none 0 0) w := by
    cases a with
    | none => simp [Builtin.append_, run_underlying he.und, sizeOf, typeInfo, hi, Builtin.lenOf, run_firstCells_none]
    | some ad => simp [Builtin.append_, run_underlying he.und, sizeOf, typeInfo, hi, Builtin.lenOf, hf]
  refine wpM_value rfl (run_call_append rfl w hr) ?_
  rw [actM_put]
  exact k w hw
end

theorem dNew_4 : Spec Tryz.prog 5 [.int .i64 4] [] [] fun F v Rs' => ∃ p, v = .tuple #[.pointer (some ⟨p, 0, none⟩), .int .i64 0] ∧ Rs' = (p, DISK p (Dk.new 4)) :: F := dNew_ok 4 (by omega) (by omega)

/-- what DiskOwn reads behind the crash -/
theorem own_law {x : Int} {xs : List Int} {bs : List Bool} {s : Dk} {ks : List Int} (hs : s = (((Dk.new 4).wrote x xs).fused 1 bs).met) (hx : 0 ≤ x ∧ x < 4) (hw : s.Wf) (hk : KeysD s.dirty ks) :
    (s.gone ks bs).up.now x = if bs[0]? = some true then xs else List.replicate 512 0 := by
  have hd : ∀ j, (s.dirty j).isSome = true ↔ j = x := fun j => by
    rw [hs]
    show ((if j = x then some xs else none : Option (List Int)).isSome = true) ↔ _
    split <;> simp_all
  have hks : ks = [x] := sorted_unique ks [x] hk.nodup (by simp) hk.le (by simp) fun i => by rw [hk.mem, hd]; simp
  subst hks
  have h1 := Dk.gone_hit (bs := bs) hw hk (n := 0) (i := x) rfl
  have h2 : s.dirty x = some xs := by
    rw [hs]
    show (if x = x then some xs else none) = some xs
    rw [if_pos rfl]
  have h3 : s.sure[x.toNat]? = some (List.replicate 512 0) := by
    rw [hs]
    show (List.replicate 4 (List.replicate 512 (0 : Int)))[x.toNat]? = _
    rw [List.getElem?_replicate, if_pos (by omega)]
  rw [Dk.now_sure rfl]
  show ((s.gone [x] bs).sure[x.toNat]?).getD [] = _
  rw [h1, h2, h3]
  split <;> rfl


end Go.Gsl

namespace Go.Gsl
set_option linter.unusedVariables false
open Go.Proofs Go.RowKit

theorem fused_wrote {s : Dk} {m : Int} {bs : List Bool} {a : Int} {xs : List Int} (hm : m ≠ 0) : (s.fused m bs).wrote a xs = (s.wrote a xs).fused (m - 1) bs := by
  show Dk.mk s.sure (fun j => if j = a then some xs else s.dirty j) s.down (IntKind.i64.wrap (s.calls + 1)) (if m = 0 then 0 else m - 1) bs = Dk.mk s.sure (fun j => if j = a then some xs else s.dirty j) s.down (IntKind.i64.wrap (s.calls + 1)) (m - 1) bs
  rw [if_neg hm]
theorem fused_barred {s : Dk} {m : Int} {bs : List Bool} (hm : m ≠ 0) : (s.fused m bs).barred = s.barred.fused (m - 1) bs := by
  show Dk.mk (mergeS s.dirty s.sure) (fun _ => none) s.down (IntKind.i64.wrap (s.calls + 1)) (if m = 0 then 0 else m - 1) bs = Dk.mk (mergeS s.dirty s.sure) (fun _ => none) s.down (IntKind.i64.wrap (s.calls + 1)) (m - 1) bs
  rw [if_neg hm]
theorem same_gone {s t : Dk} {ks : List Int} {bs : List Bool} (h1 : s.sure = t.sure) (h2 : s.dirty = t.dirty) : (s.gone ks bs).same (t.gone ks bs) := by
  have e : (s.gone ks bs).sure = (t.gone ks bs).sure := by
    show goS s.dirty ks bs s.sure = goS t.dirty ks bs t.sure
    rw [h1, h2]
  refine ⟨by rw [e], fun i _ => ?_⟩
  rw [Dk.now_sure rfl, Dk.now_sure rfl, e]


end Go.Gsl

namespace Go.Gsl
set_option linter.unusedVariables false
open Go.Proofs Go.RowKit Go.ChangeShapes Go.WideShapes

section
variable {H : Type} {enc : TypeId × Value → H} {W : World} {base : Nat} {fuel : Nat}

theorem weightsAll_mem {P : Program} {e : TypeId} {d : DataW H} {n : Nat} : ∀ {ds : List (DataW H)}, d ∈ ds → n ∈ d.weights P e → n ∈ DataW.weightsAll P e ds
  | [], hd, _ => by simp at hd
  | d0 :: ds, hd, hn => by
    rw [DataW.weightsAll, List.mem_append]
    rcases List.mem_cons.1 hd with rfl | h
    · exact .inl hn
    · exact .inr (weightsAll_mem h hn)

theorem read_field_z {P : Program} {t : TypeId} {fs : Array Field} {cs : List Value} {x : DataW H × List MemPlace} (hu : P.underlying t = some (.struct fs)) (h : DataW.trod enc P W 0 (fun _ => true) true fuel t cs = some x) :
    ∃ n parts, x.1 = .agg parts ∧ ∀ (i off ft : Nat), (fs[i]?).map (fun f => (f.offset, f.type)) = some (off, ft) → P.cellsOf ft = 1 → off < P.cellsOf t → ∃ c y, cs[off]? = some c ∧ DataW.trod enc P W 0 (fun _ => true) true n ft [c] = some y ∧ parts[i]? = some y.1 := by
  obtain ⟨xs, n, _, hx, hl, hlen, hf⟩ := DataW.trod_struct hu h
  refine ⟨n, xs.map (·.1), by rw [hx], fun i off ft hi hc ho => ?_⟩
  obtain ⟨f, hfi, he⟩ := Option.map_eq_some_iff.1 hi
  simp only [Prod.mk.injEq] at he
  obtain ⟨rfl, rfl⟩ := he
  have h1 := hf i f hfi
  rw [hc] at h1
  have hlt : f.offset < cs.length := by omega
  have h2 : (cs.drop f.offset).take 1 = [cs[f.offset]] := by
    rw [List.drop_eq_getElem_cons hlt]; rfl
  rw [h2] at h1
  have h3 : i < xs.length := by rw [hlen]; exact (Array.getElem?_eq_some_iff.1 hfi).1
  exact ⟨cs[f.offset], xs[i], by simp [hlt], by rw [h1]; simp [h3], by simp [h3]⟩

end
end Go.Gsl

namespace Go.Gsl
set_option linter.unusedVariables false
open Go.Proofs

def strV (xs : List Int) : Value := .string (strB xs)
/-- the fuse's bools, if there is a fuse -/
def RKeep (kv : Value) (s : Dk) : HProp := fun h => s.fuse ≠ 0 → BoolsI kv s.keep h

abbrev rrow (bN bU bD n cN cU cD : Nat) (fuse : Int) (kv : Value) (calls : Int) (down : Bool) : Obj := .cells [.slice (some ⟨bN, 0, none⟩) n cN, .slice (some ⟨bU, 0, none⟩) n cU, .slice (some ⟨bD, 0, none⟩) n cD, .int .i64 fuse, kv, .int .i64 calls, .bool down].toArray 71 (0, 0)

structure RX where
  bN : Nat
  bU : Nat
  bD : Nat
  q : Nat
  cN : Nat
  cU : Nat
  cD : Nat
  kv : Value
  rN : List Value
  rU : List Value
  rD : List Value

def Dk.fN (s : Dk) : Nat → Value := fun i => strV (s.now i)
def Dk.fU (s : Dk) : Nat → Value := fun i => strV ((s.sure[i]?).getD [])
def Dk.fD (s : Dk) : Nat → Value := fun i => .bool (s.dirty i).isSome

abbrev strs (f : Nat → Value) (n : Nat) (r : List Value) : Obj := .cells (cellsOf f n ++ r).toArray 9 (0, 0)
abbrev bools (f : Nat → Value) (n : Nat) (r : List Value) : Obj := .cells (cellsOf f n ++ r).toArray 4 (0, 0)

def REFl (p : Nat) (s : Dk) (x : RX) (F : List Res) : List Res :=
  (p, pts p (rrow x.bN x.bU x.bD s.sure.length x.cN x.cU x.cD s.fuse x.kv s.calls s.down)) :: (x.bN, pts x.bN (strs s.fN s.sure.length x.rN)) :: (x.bU, pts x.bU (strs s.fU s.sure.length x.rU)) :: (x.bD, pts x.bD (bools s.fD s.sure.length x.rD)) :: (x.q, RKeep x.kv s) :: F
structure RX.Ok (x : RX) (s : Dk) : Prop where
  wf : s.Wf
  one : x.kv.oneCell' = true
/-- The document's disk stands at p. -/
def REF (p : Nat) (s : Dk) : HProp := fun h => ∃ x : RX, x.Ok s ∧ hall (REFl p s x []) h

theorem REF.openS {p k : Nat} {s : Dk} {F : List Res} {w0 w : World} (hs : Sat w0 w ((k, REF p s) :: F)) : ∃ x : RX, x.Ok s ∧ Sat w0 w (REFl p s x F) := by
  obtain ⟨x, hx, h⟩ := hs.opn (φ := fun x : RX => x.Ok s) (p := fun x => hall (REFl p s x [])) fun y ⟨x, h1, h2⟩ => ⟨x, h1, h2⟩
  exact ⟨x, hx, h.ent (Ent.hall_open _ _ _)⟩
theorem REF.close {p : Nat} {s : Dk} {x : RX} {F : List Res} (hx : x.Ok s) : Ent (REFl p s x F) ((p, REF p s) :: F) :=
  (Ent.hall_close p (REFl p s x []) F).trans (Ent.head fun _ h => ⟨x, hx, h⟩)
section
variable {P : Program} {ops : List Oper} {Q : Cont} {n : Nat} {w0 : World} {l : List Oper} {e : Env} {Rs F : List Res}
theorem REF.sc {c : Code} {p : Nat} {s : Dk} [t : Take Rs p (REF p s) F] (h : ∀ x : RX, x.Ok s → SC P Q n w0 c e (REFl p s x F)) : SC P Q n w0 c e Rs := by
  intro w hw
  obtain ⟨x, hx, hs⟩ := REF.openS (hw.ent t.ent)
  exact h x hx w hs
theorem REF.sw {p : Nat} {s : Dk} [t : Take Rs p (REF p s) F] (h : ∀ x : RX, x.Ok s → SW P ops Q n w0 l e (REFl p s x F)) : SW P ops Q n w0 l e Rs := by
  intro w hw
  obtain ⟨x, hx, hs⟩ := REF.openS (hw.ent t.ent)
  exact h x hx w hs
end

theorem rSectors_ok (p : Nat) (s : Dk) : Spec Tryz.prog 105 [.pointer (some ⟨p, 0, none⟩)] [p] [REF p s] fun F v Rs' => v = .int .i64 s.sure.length ∧ Rs' = (p, REF p s) :: F := by
  -- rSectors the function, rfl what it tells
  refine spec_of Tryz.func105 rfl Tryz.ntmps105 rfl ?_
  intro w0 F
  refine REF.sc (p := p) (s := s) fun x hx => ?_
  unfold REFl
  repeat' (first | with_reducible (first | refine sw_op ?_ | refine sw_op_ ?_) | with_reducible (first | refine sw_nil ?_ | refine sq_then ?_ | refine sc_seq ?_ | refine sc_region ?_ | refine sw_guard_skip ?_ | refine sw_guard_skip_ ?_ | refine sw_guard_run ?_ | refine sc_cond_true ?_ | refine sc_cond_false ?_ | refine sc_ret ?_ | refine sq_then_ret ?_ | refine sc_skip ?_ | refine sc_block ?_ | refine sq_block ?_ | refine sq_block_ret ?_ | refine sc_exit ?_ | refine sq_then_exit ?_ | refine sq_block_exit ?_ | refine sq_block_past ?_ | refine sq_round_ret ?_ | refine sq_round_exit ?_) | (with_reducible refine sc_cond (fun h => ?_) (fun h => ?_)) <;> (try (exfalso; first | contradiction | omega | exact h Iff.rfl)) | (with_reducible refine sw_guard_split (fun h => ?_) (fun h => ?_)) <;> (try (exfalso; first | contradiction | omega | exact h Iff.rfl)) | (with_reducible refine sw_pick (fun h => ?_) (fun h => ?_)) <;> (try (exfalso; first | contradiction | omega | exact h Iff.rfl)) | fail)
  refine sq_ret1 Tryz.results105 ?_
  refine ⟨_, ⟨rfl, rfl⟩, Ent.trans (B := REFl p s x F) ?_ (REF.close hx)⟩
  unfold REFl
  repeat' (first | with_reducible exact Ent.refl _ | with_reducible refine Ent.take_eq ?_ ?_ | rfl | with_reducible refine Ent.trans (Ent.drop _ _) ?_)
theorem rCalls_ok (p : Nat) (s : Dk) : Spec Tryz.prog 11 [.pointer (some ⟨p, 0, none⟩)] [p] [REF p s] fun F v Rs' => v = .int .i64 s.calls ∧ Rs' = (p, REF p s) :: F := by
  -- rCalls the function, rfl what it tells
  refine spec_of Tryz.func11 rfl Tryz.ntmps11 rfl ?_
  intro w0 F
  refine REF.sc (p := p) (s := s) fun x hx => ?_
  unfold REFl
  repeat' (first | with_reducible (first | refine sw_op ?_ | refine sw_op_ ?_) | with_reducible (first | refine sw_nil ?_ | refine sq_then ?_ | refine sc_seq ?_ | refine sc_region ?_ | refine sw_guard_skip ?_ | refine sw_guard_skip_ ?_ | refine sw_guard_run ?_ | refine sc_cond_true ?_ | refine sc_cond_false ?_ | refine sc_ret ?_ | refine sq_then_ret ?_ | refine sc_skip ?_ | refine sc_block ?_ | refine sq_block ?_ | refine sq_block_ret ?_ | refine sc_exit ?_ | refine sq_then_exit ?_ | refine sq_block_exit ?_ | refine sq_block_past ?_ | refine sq_round_ret ?_ | refine sq_round_exit ?_) | (with_reducible refine sc_cond (fun h => ?_) (fun h => ?_)) <;> (try (exfalso; first | contradiction | omega | exact h Iff.rfl)) | (with_reducible refine sw_guard_split (fun h => ?_) (fun h => ?_)) <;> (try (exfalso; first | contradiction | omega | exact h Iff.rfl)) | (with_reducible refine sw_pick (fun h => ?_) (fun h => ?_)) <;> (try (exfalso; first | contradiction | omega | exact h Iff.rfl)) | fail)
  refine sq_ret1 Tryz.results11 ?_
  refine ⟨_, ⟨rfl, rfl⟩, Ent.trans (B := REFl p s x F) ?_ (REF.close hx)⟩
  unfold REFl
  repeat' (first | with_reducible exact Ent.refl _ | with_reducible refine Ent.take_eq ?_ ?_ | rfl | with_reducible refine Ent.trans (Ent.drop _ _) ?_)

theorem rMay_ok (p : Nat) (s : Dk) (a : Int) : Spec Tryz.prog 75 [.pointer (some ⟨p, 0, none⟩), .int .i64 a] [p] [REF p s] fun F v Rs' => v = .int .i64 (s.looks a) ∧ Rs' = (p, REF p s) :: F := by
  refine spec_of Tryz.func75 rfl Tryz.ntmps75 rfl ?_
  intro w0 F
  refine REF.sc (p := p) (s := s) fun x hx => ?_
  unfold REFl
  repeat' (first | with_reducible (first | refine sw_op ?_ | refine sw_op_ ?_) | with_reducible (first | refine sw_nil ?_ | refine sq_then ?_ | refine sc_seq ?_ | refine sc_region ?_ | refine sw_guard_skip ?_ | refine sw_guard_skip_ ?_ | refine sw_guard_run ?_ | refine sc_cond_true ?_ | refine sc_cond_false ?_ | refine sc_ret ?_ | refine sq_then_ret ?_ | refine sc_skip ?_ | refine sc_block ?_ | refine sq_block ?_ | refine sq_block_ret ?_ | refine sc_exit ?_ | refine sq_then_exit ?_ | refine sq_block_exit ?_ | refine sq_block_past ?_ | refine sq_round_ret ?_ | refine sq_round_exit ?_) | (with_reducible refine sc_cond (fun h => ?_) (fun h => ?_)) <;> (try (exfalso; first | contradiction | omega | exact h Iff.rfl)) | (with_reducible refine sw_guard_split (fun h => ?_) (fun h => ?_)) <;> (try (exfalso; first | contradiction | omega | exact h Iff.rfl)) | (with_reducible refine sw_pick (fun h => ?_) (fun h => ?_)) <;> (try (exfalso; first | contradiction | omega | exact h Iff.rfl)) | fail)
  all_goals
    refine sq_ret1 Tryz.results75 ?_
    refine ⟨_, ⟨?_, rfl⟩, Ent.trans (B := REFl p s x F) ?_ (REF.close hx)⟩
    · unfold Dk.looks
      first
        | (rw [if_pos (by assumption)]; done)
        | (rw [if_neg (by assumption), if_pos (by omega)]; done)
        | (rw [if_neg (by assumption), if_neg (by omega)]; done)
    · unfold REFl
      repeat' (first | with_reducible exact Ent.refl _ | with_reducible refine Ent.take_eq ?_ ?_ | rfl | with_reducible refine Ent.trans (Ent.drop _ _) ?_)

theorem up_now (s : Dk) (i : Int) : s.up.now i = s.now i := rfl
theorem rRestart_ok (p : Nat) (s : Dk) : Spec Tryz.prog 34 [.pointer (some ⟨p, 0, none⟩)] [p] [REF p s] fun F v Rs' => v = .int .i64 0 ∧ Rs' = (p, REF p s.up) :: F := by
  refine spec_of Tryz.func34 rfl Tryz.ntmps34 rfl ?_
  intro w0 F
  refine REF.sc (p := p) (s := s) fun x hx => ?_
  haveI : One x.kv := ⟨hx.one⟩
  unfold REFl
  repeat' (first | with_reducible (first | refine sw_op ?_ | refine sw_op_ ?_) | with_reducible refine sw_store ?_ | with_reducible (first | refine sw_nil ?_ | refine sq_then ?_ | refine sc_seq ?_ | refine sc_region ?_ | refine sw_guard_skip ?_ | refine sw_guard_skip_ ?_ | refine sw_guard_run ?_ | refine sc_cond_true ?_ | refine sc_cond_false ?_ | refine sc_ret ?_ | refine sq_then_ret ?_ | refine sc_skip ?_ | refine sc_block ?_ | refine sq_block ?_ | refine sq_block_ret ?_ | refine sc_exit ?_ | refine sq_then_exit ?_ | refine sq_block_exit ?_ | refine sq_block_past ?_ | refine sq_round_ret ?_ | refine sq_round_exit ?_) | fail)
  refine sq_ret1 Tryz.results34 ?_
  refine ⟨_, ⟨rfl, rfl⟩, Ent.trans (B := REFl p s.up x F) ?_ (REF.close ⟨Dk.up_wf hx.wf, hx.one⟩)⟩
  unfold REFl
  repeat' (first | with_reducible exact Ent.refl _ | with_reducible refine Ent.take_eq ?_ ?_ | rfl | with_reducible refine Ent.trans (Ent.drop _ _) ?_)

theorem rRead_bad (p : Nat) (s : Dk) (a : Int) (hb : s.looks a ≠ 0) : Spec Tryz.prog 103 [.pointer (some ⟨p, 0, none⟩), .int .i64 a] [p] [REF p s]
    fun F v Rs' => v = .tuple #[.slice none 0 0, .int .i64 (s.looks a)] ∧ Rs' = (p, REF p s) :: F := by
  refine spec_of Tryz.func103 rfl Tryz.ntmps103 rfl ?_
  intro w0 F
  repeat' (first | with_reducible (first | refine sw_op ?_ | refine sw_op_ ?_) | ((with_reducible refine sw_call (rMay_ok p s a) ?_); rintro _ _ ⟨rfl, rfl⟩) | with_reducible (first | refine sw_nil ?_ | refine sq_then ?_ | refine sc_seq ?_ | refine sc_region ?_ | refine sw_guard_skip ?_ | refine sw_guard_skip_ ?_ | refine sw_guard_run ?_ | refine sc_cond_true ?_ | refine sc_cond_false ?_ | refine sc_ret ?_ | refine sq_then_ret ?_ | refine sc_skip ?_ | refine sc_block ?_ | refine sq_block ?_ | refine sq_block_ret ?_ | refine sc_exit ?_ | refine sq_then_exit ?_ | refine sq_block_exit ?_ | refine sq_block_past ?_ | refine sq_round_ret ?_ | refine sq_round_exit ?_) | (with_reducible refine sc_cond (fun h => ?_) (fun h => ?_)) <;> (try (exfalso; first | contradiction | omega | exact h Iff.rfl)) | (with_reducible refine sw_guard_split (fun h => ?_) (fun h => ?_)) <;> (try (exfalso; first | contradiction | omega | exact h Iff.rfl)) | (with_reducible refine sw_pick (fun h => ?_) (fun h => ?_)) <;> (try (exfalso; first | contradiction | omega | exact h Iff.rfl)) | fail)
  refine sq_ret2 Tryz.results103 ?_
  refine ⟨_, ⟨rfl, rfl⟩, ?_⟩
  repeat' (first | with_reducible exact Ent.refl _ | with_reducible refine Ent.take_eq ?_ ?_ | rfl | with_reducible refine Ent.trans (Ent.drop _ _) ?_)
theorem rRead_ok (p : Nat) (s : Dk) (a : Int) (hb : s.looks a = 0) : Spec Tryz.prog 103 [.pointer (some ⟨p, 0, none⟩), .int .i64 a] [p] [REF p s]
    fun F v Rs' => ∃ b c r fr, v = .tuple #[.slice (some ⟨b, 0, none⟩) 512 c, .int .i64 0] ∧ Rs' = (b, pts b (.cells ((s.now a).map (Value.int .u8) ++ r).toArray 5 fr)) :: (p, REF p s) :: F := by
  have hin := (Dk.looks_zero hb).2
  obtain ⟨m, rfl⟩ : ∃ m : Nat, a = m := ⟨a.toNat, by omega⟩
  refine spec_of Tryz.func103 rfl Tryz.ntmps103 rfl ?_
  intro w0 F
  repeat' (first | with_reducible (first | refine sw_op ?_ | refine sw_op_ ?_) | ((with_reducible refine sw_call (rMay_ok p s m) ?_); rintro _ _ ⟨rfl, rfl⟩) | with_reducible (first | refine sw_nil ?_ | refine sq_then ?_ | refine sc_seq ?_ | refine sc_region ?_ | refine sw_guard_skip ?_ | refine sw_guard_skip_ ?_ | refine sw_guard_run ?_ | refine sc_cond_true ?_ | refine sc_cond_false ?_ | refine sc_ret ?_ | refine sq_then_ret ?_ | refine sc_skip ?_ | refine sc_block ?_ | refine sq_block ?_ | refine sq_block_ret ?_ | refine sc_exit ?_ | refine sq_then_exit ?_ | refine sq_block_exit ?_ | refine sq_block_past ?_ | refine sq_round_ret ?_ | refine sq_round_exit ?_) | (with_reducible refine sc_cond (fun h => ?_) (fun h => ?_)) <;> (try (exfalso; first | contradiction | omega | exact h Iff.rfl)) | (with_reducible refine sw_guard_split (fun h => ?_) (fun h => ?_)) <;> (try (exfalso; first | contradiction | omega | exact h Iff.rfl)) | (with_reducible refine sw_pick (fun h => ?_) (fun h => ?_)) <;> (try (exfalso; first | contradiction | omega | exact h Iff.rfl)) | fail)
  refine REF.sw (p := p) (s := s) fun x hx => ?_
  have hnw := Dk.now_wf hx.wf hin.1 hin.2
  unfold REFl
  repeat' (first | with_reducible (first | refine sw_op ?_ | refine sw_op_ ?_) | with_reducible (first | refine sw_nil ?_ | refine sq_then ?_ | refine sc_seq ?_ | refine sc_region ?_ | refine sw_guard_skip ?_ | refine sw_guard_skip_ ?_ | refine sw_guard_run ?_ | refine sc_cond_true ?_ | refine sc_cond_false ?_ | refine sc_ret ?_ | refine sq_then_ret ?_ | refine sc_skip ?_ | refine sc_block ?_ | refine sq_block ?_ | refine sq_block_ret ?_ | refine sc_exit ?_ | refine sq_then_exit ?_ | refine sq_block_exit ?_ | refine sq_block_past ?_ | refine sq_round_ret ?_ | refine sq_round_exit ?_) | fail)
  refine sw_idx m (by omega) ?_
  refine sw_loadAt (strV (s.now m)) (cellsOf_get (by omega)) ?_
  unfold strV
  repeat' (first | with_reducible (first | refine sw_op ?_ | refine sw_op_ ?_) | with_reducible (first | refine sw_nil ?_ | refine sq_then ?_ | refine sc_seq ?_ | refine sc_region ?_ | refine sw_guard_skip ?_ | refine sw_guard_skip_ ?_ | refine sw_guard_run ?_ | refine sc_cond_true ?_ | refine sc_cond_false ?_ | refine sc_ret ?_ | refine sq_then_ret ?_ | refine sc_skip ?_ | refine sc_block ?_ | refine sq_block ?_ | refine sq_block_ret ?_ | refine sc_exit ?_ | refine sq_then_exit ?_ | refine sq_block_exit ?_ | refine sq_block_past ?_ | refine sq_round_ret ?_ | refine sq_round_exit ?_) | fail)
  refine sw_strBytes (s.now m) hnw.byte fun b c r fr => ?_
  rw [hnw.len]
  repeat' (first | with_reducible (first | refine sw_op ?_ | refine sw_op_ ?_) | with_reducible (first | refine sw_nil ?_ | refine sq_then ?_ | refine sc_seq ?_ | refine sc_region ?_ | refine sw_guard_skip ?_ | refine sw_guard_skip_ ?_ | refine sw_guard_run ?_ | refine sc_cond_true ?_ | refine sc_cond_false ?_ | refine sc_ret ?_ | refine sq_then_ret ?_ | refine sc_skip ?_ | refine sc_block ?_ | refine sq_block ?_ | refine sq_block_ret ?_ | refine sc_exit ?_ | refine sq_then_exit ?_ | refine sq_block_exit ?_ | refine sq_block_past ?_ | refine sq_round_ret ?_ | refine sq_round_exit ?_) | fail)
  refine sq_ret2 Tryz.results103 ?_
  refine ⟨_, ⟨b, c, r, fr, rfl, rfl⟩, Ent.cons _ (Ent.trans (B := REFl p s x F) ?_ (REF.close hx))⟩
  unfold REFl
  repeat' (first | with_reducible exact Ent.refl _ | with_reducible refine Ent.take_eq ?_ ?_ | rfl | with_reducible refine Ent.trans (Ent.drop _ _) ?_)

theorem rMeets_raw (p bN bU bD n cN cU cD : Nat) (fuse : Int) (kv : Value) (calls : Int) (down : Bool) (h0 : 0 ≤ fuse) (h1 : fuse ≤ 9223372036854775807) (hk : kv.oneCell' = true) :
    Spec Tryz.prog 76 [.pointer (some ⟨p, 0, none⟩)] [p] [pts p (rrow bN bU bD n cN cU cD fuse kv calls down)] fun F v Rs' => v = .bool (decide (fuse = 1)) ∧
      Rs' = (p, pts p (rrow bN bU bD n cN cU cD (if fuse = 0 then 0 else fuse - 1) kv (IntKind.i64.wrap (calls + 1)) down)) :: F := by
  haveI : One kv := ⟨hk⟩
  refine spec_of Tryz.func76 rfl Tryz.ntmps76 rfl ?_
  intro w0 F
  repeat' (first | with_reducible (first | refine sw_i64 (by omega) ?_ | refine sw_op ?_ | refine sw_op_ ?_) | with_reducible refine sw_store ?_ | with_reducible (first | refine sw_nil ?_ | refine sq_then ?_ | refine sc_seq ?_ | refine sc_region ?_ | refine sw_guard_skip ?_ | refine sw_guard_skip_ ?_ | refine sw_guard_run ?_ | refine sc_cond_true ?_ | refine sc_cond_false ?_ | refine sc_ret ?_ | refine sq_then_ret ?_ | refine sc_skip ?_ | refine sc_block ?_ | refine sq_block ?_ | refine sq_block_ret ?_ | refine sc_exit ?_ | refine sq_then_exit ?_ | refine sq_block_exit ?_ | refine sq_block_past ?_ | refine sq_round_ret ?_ | refine sq_round_exit ?_) | (with_reducible refine sc_cond (fun h => ?_) (fun h => ?_)) <;> (try (exfalso; first | contradiction | omega | exact h Iff.rfl)) | (with_reducible refine sw_guard_split (fun h => ?_) (fun h => ?_)) <;> (try (exfalso; first | contradiction | omega | exact h Iff.rfl)) | (with_reducible refine sw_pick (fun h => ?_) (fun h => ?_)) <;> (try (exfalso; first | contradiction | omega | exact h Iff.rfl)) | fail)
  · refine sq_ret1 Tryz.results76 ?_
    refine ⟨_, ⟨by simp [h], rfl⟩, ?_⟩
    rw [if_pos h, ← h]
    repeat' (first | with_reducible exact Ent.refl _ | with_reducible refine Ent.take_eq ?_ ?_ | rfl | with_reducible refine Ent.trans (Ent.drop _ _) ?_)
  · refine sq_ret1 Tryz.results76 ?_
    refine ⟨_, ⟨by congr 1; simp; omega, rfl⟩, ?_⟩
    rw [if_neg h]
    repeat' (first | with_reducible exact Ent.refl _ | with_reducible refine Ent.take_eq ?_ ?_ | rfl | with_reducible refine Ent.trans (Ent.drop _ _) ?_)

theorem gone_now (s : Dk) (ks : List Int) (bs : List Bool) (i : Nat) : (s.gone ks bs).now i = (((s.gone ks bs).sure[i]?).getD []) := by rw [Dk.now_sure rfl, Int.toNat_natCast]

set_option maxHeartbeats 2000000 in
/-- the power goes -/
theorem rLose_raw (p k : Nat) (s : Dk) (x : RX) (r : HProp) (kv : Value) (bs : List Bool) (fuse calls : Int) (down : Bool) (ks : List Int) (hw : s.Wf) (hone : x.kv.oneCell' = true) (hr : RdBools r kv bs) (hb : bs.length ≤ 9223372036854775807) (hks : KeysD s.dirty ks) :
    Spec Tryz.prog 77 [.pointer (some ⟨p, 0, none⟩), kv] [p, x.bN, x.bU, x.bD, k] [pts p (rrow x.bN x.bU x.bD s.sure.length x.cN x.cU x.cD fuse x.kv calls down), pts x.bN (strs s.fN s.sure.length x.rN), pts x.bU (strs s.fU s.sure.length x.rU), pts x.bD (bools s.fD s.sure.length x.rD), r]
      fun F v Rs' => v = .tuple #[] ∧ Rs' = (p, pts p (rrow x.bN x.bU x.bD s.sure.length x.cN x.cU x.cD 0 x.kv calls true)) :: (x.bN, pts x.bN (strs (s.gone ks bs).fN s.sure.length x.rN)) :: (x.bU, pts x.bU (strs (s.gone ks bs).fU s.sure.length x.rU)) :: (x.bD, pts x.bD (bools (s.gone ks bs).fD s.sure.length x.rD)) :: (k, r) :: F := by
  obtain ⟨a, c, rfl, ha, hr⟩ := hr
  haveI : One x.kv := ⟨hone⟩
  have hn2 := hw.n2
  have hk0 : ∀ j ∈ ks, 0 ≤ j := fun j hj => by
    obtain ⟨xs, hx⟩ := Option.isSome_iff_exists.1 ((hks.mem j).1 hj)
    exact (hw.dat j xs hx).1
  refine spec_of Tryz.func77 rfl Tryz.ntmps77 rfl ?_
  intro w0 F
  repeat' (first | with_reducible (first | refine sw_op ?_ | refine sw_op_ ?_) | with_reducible (first | refine sw_nil ?_ | refine sq_then ?_ | refine sc_seq ?_ | refine sc_region ?_ | refine sw_guard_skip ?_ | refine sw_guard_skip_ ?_ | refine sw_guard_run ?_ | refine sc_cond_true ?_ | refine sc_cond_false ?_ | refine sc_ret ?_ | refine sq_then_ret ?_ | refine sc_skip ?_ | refine sc_block ?_ | refine sq_block ?_ | refine sq_block_ret ?_ | refine sc_exit ?_ | refine sq_then_exit ?_ | refine sq_block_exit ?_ | refine sq_block_past ?_ | refine sq_round_ret ?_ | refine sq_round_exit ?_) | fail)
  refine sc_loop (α := { y : Nat × Nat // (y.1 ≤ s.sure.length ∧ y.2 ≤ y.1) ∧ AtK ks y.2 y.1 }) (fun y => [(0, .pointer (some ⟨p, 0, none⟩)), (1, .slice a bs.length c), (4, .int .i64 y.1.2), (5, .int .i64 y.1.1)])
    (fun y => (p, pts p (rrow x.bN x.bU x.bD s.sure.length x.cN x.cU x.cD fuse x.kv calls down)) :: (x.bN, pts x.bN (strs (fun j => if j < y.1.1 then (s.gone ks bs).fN j else s.fN j) s.sure.length x.rN)) :: (x.bU, pts x.bU (strs (fun j => if j < y.1.1 then (s.gone ks bs).fU j else s.fU j) s.sure.length x.rU)) :: (x.bD, pts x.bD (bools (fun j => if j < y.1.1 then (s.gone ks bs).fD j else s.fD j) s.sure.length x.rD)) :: (k, r) :: F)
    (fun y => s.sure.length - y.1.1) ⟨(0, 0), ⟨Nat.zero_le _, Nat.le_refl _⟩, AtK.zero hk0⟩ ?_ ?_ ?_
  · repeat' (first | exact says_nil | refine says_cons rfl ?_ | refine says_cons (by simp) ?_)
  · dsimp only
    repeat' (first | with_reducible exact Ent.refl _ | with_reducible refine Ent.take_eq ?_ ?_ | rfl | with_reducible refine Ent.trans (Ent.drop _ _) ?_)
  rintro ⟨⟨i, n2⟩, ⟨hi, hn⟩, hat⟩ e
  simp only at hi hn hat
  simp only [List.cons_append, List.nil_append]
  repeat' (first | with_reducible (first | refine sw_op ?_ | refine sw_op_ ?_) | with_reducible (first | refine sw_nil ?_ | refine sq_then ?_ | refine sc_seq ?_ | refine sc_region ?_ | refine sw_guard_skip ?_ | refine sw_guard_skip_ ?_ | refine sw_guard_run ?_ | refine sc_cond_true ?_ | refine sc_cond_false ?_ | refine sc_ret ?_ | refine sq_then_ret ?_ | refine sc_skip ?_ | refine sc_block ?_ | refine sq_block ?_ | refine sq_block_ret ?_ | refine sc_exit ?_ | refine sq_then_exit ?_ | refine sq_block_exit ?_ | refine sq_block_past ?_ | refine sq_round_ret ?_ | refine sq_round_exit ?_) | (with_reducible refine sc_cond (fun h => ?_) (fun h => ?_)) <;> (try (exfalso; first | contradiction | omega | exact h Iff.rfl)) | fail)
  · have hlt : i < s.sure.length := by omega
    obtain ⟨ys, hys⟩ : ∃ ys, s.sure[i]? = some ys := ⟨_, List.getElem?_eq_getElem hlt⟩
    repeat' (first | with_reducible (first | refine sw_op ?_ | refine sw_op_ ?_) | with_reducible (first | refine sw_nil ?_ | refine sq_then ?_ | refine sc_seq ?_ | refine sc_region ?_ | refine sw_guard_skip ?_ | refine sw_guard_skip_ ?_ | refine sw_guard_run ?_ | refine sc_cond_true ?_ | refine sc_cond_false ?_ | refine sc_ret ?_ | refine sq_then_ret ?_ | refine sc_skip ?_ | refine sc_block ?_ | refine sq_block ?_ | refine sq_block_ret ?_ | refine sc_exit ?_ | refine sq_then_exit ?_ | refine sq_block_exit ?_ | refine sq_block_past ?_ | refine sq_round_ret ?_ | refine sq_round_exit ?_) | fail)
    refine sw_idx i (by omega) ?_
    refine sw_loadAt (.bool (s.dirty i).isSome) (by rw [cellsOf_get hlt, if_neg (by omega)]; rfl) ?_
    haveI : One (s.fU i) := ⟨rfl⟩
    haveI : One ((s.gone ks bs).fN i) := ⟨rfl⟩
    repeat' (first | with_reducible (first | refine sw_op ?_ | refine sw_op_ ?_) | with_reducible (first | refine sw_nil ?_ | refine sq_then ?_ | refine sc_seq ?_ | refine sc_region ?_ | refine sw_guard_skip ?_ | refine sw_guard_skip_ ?_ | refine sw_guard_run ?_ | refine sc_cond_true ?_ | refine sc_cond_false ?_ | refine sc_ret ?_ | refine sq_then_ret ?_ | refine sc_skip ?_ | refine sc_block ?_ | refine sq_block ?_ | refine sq_block_ret ?_ | refine sc_exit ?_ | refine sq_then_exit ?_ | refine sq_block_exit ?_ | refine sq_block_past ?_ | refine sq_round_ret ?_ | refine sq_round_exit ?_) | (with_reducible refine sc_cond (fun h => ?_) (fun h => ?_)) <;> (try (exfalso; first | contradiction | omega | exact h Iff.rfl)) | fail)
    · obtain ⟨xs, hxs⟩ := Option.isSome_iff_exists.1 h
      have him : (i : Int) ∈ ks := (hks.mem i).2 h
      obtain ⟨hkn2, hat3⟩ := hat.hit hks.nodup hks.le him
      have hat3 : AtK ks (n2 + 1) ((i + 1 : Nat) : Int) := hat3
      have hh := Dk.gone_hit (bs := bs) hw hks hkn2
      rw [hxs, Int.toNat_natCast, hys] at hh
      have hnow : s.now i = xs := by unfold Dk.now; rw [hxs]; rfl
      repeat' (first | with_reducible (first | refine sw_in (by omega) ?_ | refine sw_op ?_ | refine sw_op_ ?_) | with_reducible (first | refine sw_nil ?_ | refine sq_then ?_ | refine sc_seq ?_ | refine sc_region ?_ | refine sw_guard_skip ?_ | refine sw_guard_skip_ ?_ | refine sw_guard_run ?_ | refine sc_cond_true ?_ | refine sc_cond_false ?_ | refine sc_ret ?_ | refine sq_then_ret ?_ | refine sc_skip ?_ | refine sc_block ?_ | refine sq_block ?_ | refine sq_block_ret ?_ | refine sc_exit ?_ | refine sq_then_exit ?_ | refine sq_block_exit ?_ | refine sq_block_past ?_ | refine sq_round_ret ?_ | refine sq_round_exit ?_) | (with_reducible refine sc_cond (fun h => ?_) (fun h => ?_)) <;> (try (exfalso; first | contradiction | omega | exact h Iff.rfl)) | (with_reducible refine sw_guard_split (fun h => ?_) (fun h => ?_)) <;> (try (exfalso; first | contradiction | omega | exact h Iff.rfl)) | (with_reducible refine sw_pick (fun h => ?_) (fun h => ?_)) <;> (try (exfalso; first | contradiction | omega | exact h Iff.rfl)) | fail)
      · have hzs : (s.gone ks bs).sure[i]? = some ys := by rw [hh, if_neg (by rw [List.getElem?_eq_none (by omega)]; simp)]
        -- the sector loses what was written: 0 what is dirty beside
        refine sc_drawC (m := 14) ([(p, pts p (rrow x.bN x.bU x.bD s.sure.length x.cN x.cU x.cD fuse x.kv calls down)), (x.bU, pts x.bU (strs (fun j => if j < i then (s.gone ks bs).fU j else s.fU j) s.sure.length x.rU))]) (by repeat' (first | with_reducible exact calm_post | with_reducible refine Calm.then ?_ | with_reducible refine Calm.block ?_ | with_reducible refine Calm.round ?_ | with_reducible refine Calm.mark ?_)) (by kernel_rfl) rfl (fun hcalm => ?_)
        all_goals (first | refine sg_take 0 hcalm rfl (by kernel_rfl) (by kernel_rfl) (by kernel_rfl) ?_)
        all_goals (first | refine sg_take 1 hcalm rfl (by kernel_rfl) (by kernel_rfl) (by kernel_rfl) ?_)
        all_goals (first | refine sg_take 2 hcalm rfl (by kernel_rfl) (by kernel_rfl) (by kernel_rfl) ?_)
        all_goals (first | refine sg_take 3 hcalm rfl (by kernel_rfl) (by kernel_rfl) (by kernel_rfl) ?_)
        all_goals (first | refine sg_take 4 hcalm rfl (by kernel_rfl) (by kernel_rfl) (by kernel_rfl) ?_)
        all_goals (first | refine sg_take 5 hcalm rfl (by kernel_rfl) (by kernel_rfl) (by kernel_rfl) ?_)
        all_goals (first | refine sg_take 6 hcalm rfl (by kernel_rfl) (by kernel_rfl) (by kernel_rfl) ?_)
        all_goals (first | refine sg_take 7 hcalm rfl (by kernel_rfl) (by kernel_rfl) (by kernel_rfl) ?_)
        all_goals (first | refine sg_take 8 hcalm rfl (by kernel_rfl) (by kernel_rfl) (by kernel_rfl) ?_)
        all_goals (first | refine sg_take 9 hcalm rfl (by kernel_rfl) (by kernel_rfl) (by kernel_rfl) ?_)
        all_goals (first | refine sg_take 10 hcalm rfl (by kernel_rfl) (by kernel_rfl) (by kernel_rfl) (h := runop_idx i (by omega)) ?_ | refine sg_take 10 hcalm rfl (by kernel_rfl) (by kernel_rfl) (by kernel_rfl) ?_)
        all_goals (first | refine sg_take 11 hcalm rfl (by kernel_rfl) (by kernel_rfl) (by kernel_rfl) (h := runop_loadAt (s.fU i) (by rw [cellsOf_get hlt, if_neg (by omega)])) ?_ | refine sg_take 11 hcalm rfl (by kernel_rfl) (by kernel_rfl) (by kernel_rfl) ?_)
        all_goals (first | refine sg_take 12 hcalm rfl (by kernel_rfl) (by kernel_rfl) (by kernel_rfl) (h := runop_idx i (by omega)) ?_ | refine sg_take 12 hcalm rfl (by kernel_rfl) (by kernel_rfl) (by kernel_rfl) ?_)
        all_goals (refine sg_one 13 rfl (by kernel_rfl) rfl ?_)
        all_goals (repeat' (first | with_reducible (first | refine sw_op ?_ | refine sw_op_ ?_) | with_reducible refine sw_storeAt (by rw [List.length_append, cellsOf_len]; omega) ?_ | with_reducible refine sg_back ?_ | with_reducible (first | refine sw_nil ?_ | refine sq_then ?_ | refine sc_seq ?_ | refine sc_region ?_ | refine sw_guard_skip ?_ | refine sw_guard_skip_ ?_ | refine sw_guard_run ?_ | refine sc_cond_true ?_ | refine sc_cond_false ?_ | refine sc_ret ?_ | refine sq_then_ret ?_ | refine sc_skip ?_ | refine sc_block ?_ | refine sq_block ?_ | refine sq_block_ret ?_ | refine sc_exit ?_ | refine sq_then_exit ?_ | refine sq_block_exit ?_ | refine sq_block_past ?_ | refine sq_round_ret ?_ | refine sq_round_exit ?_) | fail))
        all_goals (refine sg_done (by kernel_rfl) rfl ?_)
        rw [show s.fU i = (s.gone ks bs).fN i by unfold Dk.fU Dk.fN; rw [gone_now, hzs, hys], step_set hlt]
        -- (n2 + 1): how far the keys are
        repeat' (first | with_reducible (first | refine sw_in (by omega) ?_ | refine sw_op ?_ | refine sw_op_ ?_) | with_reducible (first | refine sw_nil ?_ | refine sq_then ?_ | refine sc_seq ?_ | refine sc_region ?_ | refine sw_guard_skip ?_ | refine sw_guard_skip_ ?_ | refine sw_guard_run ?_ | refine sc_cond_true ?_ | refine sc_cond_false ?_ | refine sc_ret ?_ | refine sq_then_ret ?_ | refine sc_skip ?_ | refine sc_block ?_ | refine sq_block ?_ | refine sq_block_ret ?_ | refine sc_exit ?_ | refine sq_then_exit ?_ | refine sq_block_exit ?_ | refine sq_block_past ?_ | refine sq_round_ret ?_ | refine sq_round_exit ?_) | fail)
        refine sc_drawC (m := 14) ([(p, pts p (rrow x.bN x.bU x.bD s.sure.length x.cN x.cU x.cD fuse x.kv calls down)), (x.bN, pts x.bN (strs (fun j => if j < i + 1 then (s.gone ks bs).fN j else s.fN j) s.sure.length x.rN))]) (by repeat' (first | with_reducible exact calm_post | with_reducible refine Calm.then ?_ | with_reducible refine Calm.block ?_ | with_reducible refine Calm.round ?_ | with_reducible refine Calm.mark ?_)) (by kernel_rfl) rfl (fun hcalm => ?_)
        all_goals (first | refine sg_take 0 hcalm rfl (by kernel_rfl) (by kernel_rfl) (by kernel_rfl) ?_)
        all_goals (first | refine sg_take 1 hcalm rfl (by kernel_rfl) (by kernel_rfl) (by kernel_rfl) ?_)
        all_goals (first | refine sg_take 2 hcalm rfl (by kernel_rfl) (by kernel_rfl) (by kernel_rfl) ?_)
        all_goals (first | refine sg_take 3 hcalm rfl (by kernel_rfl) (by kernel_rfl) (by kernel_rfl) ?_)
        all_goals (first | refine sg_take 4 hcalm rfl (by kernel_rfl) (by kernel_rfl) (by kernel_rfl) ?_)
        all_goals (first | refine sg_take 5 hcalm rfl (by kernel_rfl) (by kernel_rfl) (by kernel_rfl) ?_)
        all_goals (first | refine sg_take 6 hcalm rfl (by kernel_rfl) (by kernel_rfl) (by kernel_rfl) ?_)
        all_goals (first | refine sg_take 7 hcalm rfl (by kernel_rfl) (by kernel_rfl) (by kernel_rfl) ?_)
        all_goals (first | refine sg_take 8 hcalm rfl (by kernel_rfl) (by kernel_rfl) (by kernel_rfl) ?_)
        all_goals (first | refine sg_take 9 hcalm rfl (by kernel_rfl) (by kernel_rfl) (by kernel_rfl) ?_)
        all_goals (first | refine sg_take 10 hcalm rfl (by kernel_rfl) (by kernel_rfl) (by kernel_rfl) (h := runop_idx i (by omega)) ?_ | refine sg_take 10 hcalm rfl (by kernel_rfl) (by kernel_rfl) (by kernel_rfl) ?_)
        all_goals (first | refine sg_take 11 hcalm rfl (by kernel_rfl) (by kernel_rfl) (by kernel_rfl) (h := runop_loadAt ((s.gone ks bs).fN i) (by rw [cellsOf_get hlt, if_pos (by omega)])) ?_ | refine sg_take 11 hcalm rfl (by kernel_rfl) (by kernel_rfl) (by kernel_rfl) ?_)
        all_goals (first | refine sg_take 12 hcalm rfl (by kernel_rfl) (by kernel_rfl) (by kernel_rfl) (h := runop_idx i (by omega)) ?_ | refine sg_take 12 hcalm rfl (by kernel_rfl) (by kernel_rfl) (by kernel_rfl) ?_)
        all_goals (refine sg_one 13 rfl (by kernel_rfl) rfl ?_)
        all_goals (repeat' (first | with_reducible (first | refine sw_op ?_ | refine sw_op_ ?_) | with_reducible refine sw_storeAt (by rw [List.length_append, cellsOf_len]; omega) ?_ | with_reducible refine sg_back ?_ | with_reducible (first | refine sw_nil ?_ | refine sq_then ?_ | refine sc_seq ?_ | refine sc_region ?_ | refine sw_guard_skip ?_ | refine sw_guard_skip_ ?_ | refine sw_guard_run ?_ | refine sc_cond_true ?_ | refine sc_cond_false ?_ | refine sc_ret ?_ | refine sq_then_ret ?_ | refine sc_skip ?_ | refine sc_block ?_ | refine sq_block ?_ | refine sq_block_ret ?_ | refine sc_exit ?_ | refine sq_then_exit ?_ | refine sq_block_exit ?_ | refine sq_block_past ?_ | refine sq_round_ret ?_ | refine sq_round_exit ?_) | fail))
        all_goals (refine sg_done (by kernel_rfl) rfl ?_)
        rw [show (s.gone ks bs).fN i = (s.gone ks bs).fU i by unfold Dk.fU Dk.fN; rw [gone_now], step_set hlt]
        repeat' (first | with_reducible (first | refine sw_op ?_ | refine sw_op_ ?_) | with_reducible (first | refine sw_nil ?_ | refine sq_then ?_ | refine sc_seq ?_ | refine sc_region ?_ | refine sw_guard_skip ?_ | refine sw_guard_skip_ ?_ | refine sw_guard_run ?_ | refine sc_cond_true ?_ | refine sc_cond_false ?_ | refine sc_ret ?_ | refine sq_then_ret ?_ | refine sc_skip ?_ | refine sc_block ?_ | refine sq_block ?_ | refine sq_block_ret ?_ | refine sc_exit ?_ | refine sq_then_exit ?_ | refine sq_block_exit ?_ | refine sq_block_past ?_ | refine sq_round_ret ?_ | refine sq_round_exit ?_) | fail)
        refine sw_idx i (by omega) ?_
        refine sw_storeAt (by rw [List.length_append, cellsOf_len]; omega) ?_
        rw [show (Value.bool false) = (s.gone ks bs).fD i from rfl, step_set hlt]
        repeat' (first | with_reducible (first | refine sw_in (by omega) ?_ | refine sw_op ?_ | refine sw_op_ ?_) | with_reducible (first | refine sw_nil ?_ | refine sq_then ?_ | refine sc_seq ?_ | refine sc_region ?_ | refine sw_guard_skip ?_ | refine sw_guard_skip_ ?_ | refine sw_guard_run ?_ | refine sc_cond_true ?_ | refine sc_cond_false ?_ | refine sc_ret ?_ | refine sq_then_ret ?_ | refine sc_skip ?_ | refine sc_block ?_ | refine sq_block ?_ | refine sq_block_ret ?_ | refine sc_exit ?_ | refine sq_then_exit ?_ | refine sq_block_exit ?_ | refine sq_block_past ?_ | refine sq_round_ret ?_ | refine sq_round_exit ?_) | fail)
        refine sq_round ⟨(i + 1, (n2 + 1)), ⟨hlt, by show (n2 + 1) ≤ i + 1; omega⟩, hat3⟩ ?_ ?_ ?_
        · show s.sure.length - (i + 1) < s.sure.length - i
          omega
        · repeat' (first | exact says_nil | refine says_cons rfl ?_ | refine says_cons (by simp) ?_)
        · repeat' (first | with_reducible exact Ent.refl _ | with_reducible refine Ent.take_eq ?_ ?_ | rfl | with_reducible refine Ent.trans (Ent.drop _ _) ?_)
      · have hib : n2 < bs.length := by omega
        obtain ⟨ab, ao, rfl⟩ := ha (by omega)
        have hbv : (bs.map Value.bool)[n2]? = some (.bool bs[n2]) := by rw [List.getElem?_map, List.getElem?_eq_getElem hib]; rfl
        with_reducible refine sw_index (by omega) ?_
        repeat' (first | with_reducible (first | refine sw_op ?_ | refine sw_op_ ?_) | with_reducible (first | refine sw_nil ?_ | refine sq_then ?_ | refine sc_seq ?_ | refine sc_region ?_ | refine sw_guard_skip ?_ | refine sw_guard_skip_ ?_ | refine sw_guard_run ?_ | refine sc_cond_true ?_ | refine sc_cond_false ?_ | refine sc_ret ?_ | refine sq_then_ret ?_ | refine sc_skip ?_ | refine sc_block ?_ | refine sq_block ?_ | refine sq_block_ret ?_ | refine sc_exit ?_ | refine sq_then_exit ?_ | refine sq_block_exit ?_ | refine sq_block_past ?_ | refine sq_round_ret ?_ | refine sq_round_exit ?_) | fail)
        with_reducible refine sw_load_rd k n2 (.bool bs[n2]) hr hbv (by omega) ?_
        repeat' (first | with_reducible (first | refine sw_in (by omega) ?_ | refine sw_op ?_ | refine sw_op_ ?_) | with_reducible (first | refine sw_nil ?_ | refine sq_then ?_ | refine sc_seq ?_ | refine sc_region ?_ | refine sw_guard_skip ?_ | refine sw_guard_skip_ ?_ | refine sw_guard_run ?_ | refine sc_cond_true ?_ | refine sc_cond_false ?_ | refine sc_ret ?_ | refine sq_then_ret ?_ | refine sc_skip ?_ | refine sc_block ?_ | refine sq_block ?_ | refine sq_block_ret ?_ | refine sc_exit ?_ | refine sq_then_exit ?_ | refine sq_block_exit ?_ | refine sq_block_past ?_ | refine sq_round_ret ?_ | refine sq_round_exit ?_) | (with_reducible refine sc_cond (fun h => ?_) (fun h => ?_)) <;> (try (exfalso; first | contradiction | omega | exact h Iff.rfl)) | (with_reducible refine sw_guard_split (fun h => ?_) (fun h => ?_)) <;> (try (exfalso; first | contradiction | omega | exact h Iff.rfl)) | (with_reducible refine sw_pick (fun h => ?_) (fun h => ?_)) <;> (try (exfalso; first | contradiction | omega | exact h Iff.rfl)) | fail)
        · have hzs : (s.gone ks bs).sure[i]? = some ys := by rw [hh, if_neg (by rw [List.getElem?_eq_getElem hib]; simpa using h)]
          -- the sector loses what was written: 0 what is dirty beside
          refine sc_drawC (m := 14) ([(p, pts p (rrow x.bN x.bU x.bD s.sure.length x.cN x.cU x.cD fuse x.kv calls down)), (x.bU, pts x.bU (strs (fun j => if j < i then (s.gone ks bs).fU j else s.fU j) s.sure.length x.rU))]) (by repeat' (first | with_reducible exact calm_post | with_reducible refine Calm.then ?_ | with_reducible refine Calm.block ?_ | with_reducible refine Calm.round ?_ | with_reducible refine Calm.mark ?_)) (by kernel_rfl) rfl (fun hcalm => ?_)
          all_goals (first | refine sg_take 0 hcalm rfl (by kernel_rfl) (by kernel_rfl) (by kernel_rfl) ?_)
          all_goals (first | refine sg_take 1 hcalm rfl (by kernel_rfl) (by kernel_rfl) (by kernel_rfl) ?_)
          all_goals (first | refine sg_take 2 hcalm rfl (by kernel_rfl) (by kernel_rfl) (by kernel_rfl) ?_)
          all_goals (first | refine sg_take 3 hcalm rfl (by kernel_rfl) (by kernel_rfl) (by kernel_rfl) ?_)
          all_goals (first | refine sg_take 4 hcalm rfl (by kernel_rfl) (by kernel_rfl) (by kernel_rfl) ?_)
          all_goals (first | refine sg_take 5 hcalm rfl (by kernel_rfl) (by kernel_rfl) (by kernel_rfl) ?_)
          all_goals (first | refine sg_take 6 hcalm rfl (by kernel_rfl) (by kernel_rfl) (by kernel_rfl) ?_)
          all_goals (first | refine sg_take 7 hcalm rfl (by kernel_rfl) (by kernel_rfl) (by kernel_rfl) ?_)
          all_goals (first | refine sg_take 8 hcalm rfl (by kernel_rfl) (by kernel_rfl) (by kernel_rfl) ?_)
          all_goals (first | refine sg_take 9 hcalm rfl (by kernel_rfl) (by kernel_rfl) (by kernel_rfl) ?_)
          all_goals (first | refine sg_take 10 hcalm rfl (by kernel_rfl) (by kernel_rfl) (by kernel_rfl) (h := runop_idx i (by omega)) ?_ | refine sg_take 10 hcalm rfl (by kernel_rfl) (by kernel_rfl) (by kernel_rfl) ?_)
          all_goals (first | refine sg_take 11 hcalm rfl (by kernel_rfl) (by kernel_rfl) (by kernel_rfl) (h := runop_loadAt (s.fU i) (by rw [cellsOf_get hlt, if_neg (by omega)])) ?_ | refine sg_take 11 hcalm rfl (by kernel_rfl) (by kernel_rfl) (by kernel_rfl) ?_)
          all_goals (first | refine sg_take 12 hcalm rfl (by kernel_rfl) (by kernel_rfl) (by kernel_rfl) (h := runop_idx i (by omega)) ?_ | refine sg_take 12 hcalm rfl (by kernel_rfl) (by kernel_rfl) (by kernel_rfl) ?_)
          all_goals (refine sg_one 13 rfl (by kernel_rfl) rfl ?_)
          all_goals (repeat' (first | with_reducible (first | refine sw_op ?_ | refine sw_op_ ?_) | with_reducible refine sw_storeAt (by rw [List.length_append, cellsOf_len]; omega) ?_ | with_reducible refine sg_back ?_ | with_reducible (first | refine sw_nil ?_ | refine sq_then ?_ | refine sc_seq ?_ | refine sc_region ?_ | refine sw_guard_skip ?_ | refine sw_guard_skip_ ?_ | refine sw_guard_run ?_ | refine sc_cond_true ?_ | refine sc_cond_false ?_ | refine sc_ret ?_ | refine sq_then_ret ?_ | refine sc_skip ?_ | refine sc_block ?_ | refine sq_block ?_ | refine sq_block_ret ?_ | refine sc_exit ?_ | refine sq_then_exit ?_ | refine sq_block_exit ?_ | refine sq_block_past ?_ | refine sq_round_ret ?_ | refine sq_round_exit ?_) | fail))
          all_goals (refine sg_done (by kernel_rfl) rfl ?_)
          rw [show s.fU i = (s.gone ks bs).fN i by unfold Dk.fU Dk.fN; rw [gone_now, hzs, hys], step_set hlt]
          -- (n2 + 1): how far the keys are
          repeat' (first | with_reducible (first | refine sw_in (by omega) ?_ | refine sw_op ?_ | refine sw_op_ ?_) | with_reducible (first | refine sw_nil ?_ | refine sq_then ?_ | refine sc_seq ?_ | refine sc_region ?_ | refine sw_guard_skip ?_ | refine sw_guard_skip_ ?_ | refine sw_guard_run ?_ | refine sc_cond_true ?_ | refine sc_cond_false ?_ | refine sc_ret ?_ | refine sq_then_ret ?_ | refine sc_skip ?_ | refine sc_block ?_ | refine sq_block ?_ | refine sq_block_ret ?_ | refine sc_exit ?_ | refine sq_then_exit ?_ | refine sq_block_exit ?_ | refine sq_block_past ?_ | refine sq_round_ret ?_ | refine sq_round_exit ?_) | fail)
          refine sc_drawC (m := 14) ([(p, pts p (rrow x.bN x.bU x.bD s.sure.length x.cN x.cU x.cD fuse x.kv calls down)), (x.bN, pts x.bN (strs (fun j => if j < i + 1 then (s.gone ks bs).fN j else s.fN j) s.sure.length x.rN))]) (by repeat' (first | with_reducible exact calm_post | with_reducible refine Calm.then ?_ | with_reducible refine Calm.block ?_ | with_reducible refine Calm.round ?_ | with_reducible refine Calm.mark ?_)) (by kernel_rfl) rfl (fun hcalm => ?_)
          all_goals (first | refine sg_take 0 hcalm rfl (by kernel_rfl) (by kernel_rfl) (by kernel_rfl) ?_)
          all_goals (first | refine sg_take 1 hcalm rfl (by kernel_rfl) (by kernel_rfl) (by kernel_rfl) ?_)
          all_goals (first | refine sg_take 2 hcalm rfl (by kernel_rfl) (by kernel_rfl) (by kernel_rfl) ?_)
          all_goals (first | refine sg_take 3 hcalm rfl (by kernel_rfl) (by kernel_rfl) (by kernel_rfl) ?_)
          all_goals (first | refine sg_take 4 hcalm rfl (by kernel_rfl) (by kernel_rfl) (by kernel_rfl) ?_)
          all_goals (first | refine sg_take 5 hcalm rfl (by kernel_rfl) (by kernel_rfl) (by kernel_rfl) ?_)
          all_goals (first | refine sg_take 6 hcalm rfl (by kernel_rfl) (by kernel_rfl) (by kernel_rfl) ?_)
          all_goals (first | refine sg_take 7 hcalm rfl (by kernel_rfl) (by kernel_rfl) (by kernel_rfl) ?_)
          all_goals (first | refine sg_take 8 hcalm rfl (by kernel_rfl) (by kernel_rfl) (by kernel_rfl) ?_)
          all_goals (first | refine sg_take 9 hcalm rfl (by kernel_rfl) (by kernel_rfl) (by kernel_rfl) ?_)
          all_goals (first | refine sg_take 10 hcalm rfl (by kernel_rfl) (by kernel_rfl) (by kernel_rfl) (h := runop_idx i (by omega)) ?_ | refine sg_take 10 hcalm rfl (by kernel_rfl) (by kernel_rfl) (by kernel_rfl) ?_)
          all_goals (first | refine sg_take 11 hcalm rfl (by kernel_rfl) (by kernel_rfl) (by kernel_rfl) (h := runop_loadAt ((s.gone ks bs).fN i) (by rw [cellsOf_get hlt, if_pos (by omega)])) ?_ | refine sg_take 11 hcalm rfl (by kernel_rfl) (by kernel_rfl) (by kernel_rfl) ?_)
          all_goals (first | refine sg_take 12 hcalm rfl (by kernel_rfl) (by kernel_rfl) (by kernel_rfl) (h := runop_idx i (by omega)) ?_ | refine sg_take 12 hcalm rfl (by kernel_rfl) (by kernel_rfl) (by kernel_rfl) ?_)
          all_goals (refine sg_one 13 rfl (by kernel_rfl) rfl ?_)
          all_goals (repeat' (first | with_reducible (first | refine sw_op ?_ | refine sw_op_ ?_) | with_reducible refine sw_storeAt (by rw [List.length_append, cellsOf_len]; omega) ?_ | with_reducible refine sg_back ?_ | with_reducible (first | refine sw_nil ?_ | refine sq_then ?_ | refine sc_seq ?_ | refine sc_region ?_ | refine sw_guard_skip ?_ | refine sw_guard_skip_ ?_ | refine sw_guard_run ?_ | refine sc_cond_true ?_ | refine sc_cond_false ?_ | refine sc_ret ?_ | refine sq_then_ret ?_ | refine sc_skip ?_ | refine sc_block ?_ | refine sq_block ?_ | refine sq_block_ret ?_ | refine sc_exit ?_ | refine sq_then_exit ?_ | refine sq_block_exit ?_ | refine sq_block_past ?_ | refine sq_round_ret ?_ | refine sq_round_exit ?_) | fail))
          all_goals (refine sg_done (by kernel_rfl) rfl ?_)
          rw [show (s.gone ks bs).fN i = (s.gone ks bs).fU i by unfold Dk.fU Dk.fN; rw [gone_now], step_set hlt]
          repeat' (first | with_reducible (first | refine sw_op ?_ | refine sw_op_ ?_) | with_reducible (first | refine sw_nil ?_ | refine sq_then ?_ | refine sc_seq ?_ | refine sc_region ?_ | refine sw_guard_skip ?_ | refine sw_guard_skip_ ?_ | refine sw_guard_run ?_ | refine sc_cond_true ?_ | refine sc_cond_false ?_ | refine sc_ret ?_ | refine sq_then_ret ?_ | refine sc_skip ?_ | refine sc_block ?_ | refine sq_block ?_ | refine sq_block_ret ?_ | refine sc_exit ?_ | refine sq_then_exit ?_ | refine sq_block_exit ?_ | refine sq_block_past ?_ | refine sq_round_ret ?_ | refine sq_round_exit ?_) | fail)
          refine sw_idx i (by omega) ?_
          refine sw_storeAt (by rw [List.length_append, cellsOf_len]; omega) ?_
          rw [show (Value.bool false) = (s.gone ks bs).fD i from rfl, step_set hlt]
          repeat' (first | with_reducible (first | refine sw_in (by omega) ?_ | refine sw_op ?_ | refine sw_op_ ?_) | with_reducible (first | refine sw_nil ?_ | refine sq_then ?_ | refine sc_seq ?_ | refine sc_region ?_ | refine sw_guard_skip ?_ | refine sw_guard_skip_ ?_ | refine sw_guard_run ?_ | refine sc_cond_true ?_ | refine sc_cond_false ?_ | refine sc_ret ?_ | refine sq_then_ret ?_ | refine sc_skip ?_ | refine sc_block ?_ | refine sq_block ?_ | refine sq_block_ret ?_ | refine sc_exit ?_ | refine sq_then_exit ?_ | refine sq_block_exit ?_ | refine sq_block_past ?_ | refine sq_round_ret ?_ | refine sq_round_exit ?_) | fail)
          refine sq_round ⟨(i + 1, (n2 + 1)), ⟨hlt, by show (n2 + 1) ≤ i + 1; omega⟩, hat3⟩ ?_ ?_ ?_
          · show s.sure.length - (i + 1) < s.sure.length - i
            omega
          · repeat' (first | exact says_nil | refine says_cons rfl ?_ | refine says_cons (by simp) ?_)
          · repeat' (first | with_reducible exact Ent.refl _ | with_reducible refine Ent.take_eq ?_ ?_ | rfl | with_reducible refine Ent.trans (Ent.drop _ _) ?_)
        · have hzs : (s.gone ks bs).sure[i]? = some xs := by rw [hh, if_pos (by rw [List.getElem?_eq_getElem hib]; simpa using h)]; rfl
          rw [show strs (fun j => if j < i then (s.gone ks bs).fN j else s.fN j) s.sure.length x.rN = strs (fun j => if j < i + 1 then (s.gone ks bs).fN j else s.fN j) s.sure.length x.rN from congrArg (fun l => Obj.cells (l ++ x.rN).toArray 9 (0, 0)) (step_keep (by unfold Dk.fN; rw [gone_now, hzs, hnow]; rfl))]
          -- (n2 + 1): how far the keys are
          repeat' (first | with_reducible (first | refine sw_in (by omega) ?_ | refine sw_op ?_ | refine sw_op_ ?_) | with_reducible (first | refine sw_nil ?_ | refine sq_then ?_ | refine sc_seq ?_ | refine sc_region ?_ | refine sw_guard_skip ?_ | refine sw_guard_skip_ ?_ | refine sw_guard_run ?_ | refine sc_cond_true ?_ | refine sc_cond_false ?_ | refine sc_ret ?_ | refine sq_then_ret ?_ | refine sc_skip ?_ | refine sc_block ?_ | refine sq_block ?_ | refine sq_block_ret ?_ | refine sc_exit ?_ | refine sq_then_exit ?_ | refine sq_block_exit ?_ | refine sq_block_past ?_ | refine sq_round_ret ?_ | refine sq_round_exit ?_) | fail)
          refine sc_drawC (m := 14) ([(p, pts p (rrow x.bN x.bU x.bD s.sure.length x.cN x.cU x.cD fuse x.kv calls down)), (x.bN, pts x.bN (strs (fun j => if j < i + 1 then (s.gone ks bs).fN j else s.fN j) s.sure.length x.rN))]) (by repeat' (first | with_reducible exact calm_post | with_reducible refine Calm.then ?_ | with_reducible refine Calm.block ?_ | with_reducible refine Calm.round ?_ | with_reducible refine Calm.mark ?_)) (by kernel_rfl) rfl (fun hcalm => ?_)
          all_goals (first | refine sg_take 0 hcalm rfl (by kernel_rfl) (by kernel_rfl) (by kernel_rfl) ?_)
          all_goals (first | refine sg_take 1 hcalm rfl (by kernel_rfl) (by kernel_rfl) (by kernel_rfl) ?_)
          all_goals (first | refine sg_take 2 hcalm rfl (by kernel_rfl) (by kernel_rfl) (by kernel_rfl) ?_)
          all_goals (first | refine sg_take 3 hcalm rfl (by kernel_rfl) (by kernel_rfl) (by kernel_rfl) ?_)
          all_goals (first | refine sg_take 4 hcalm rfl (by kernel_rfl) (by kernel_rfl) (by kernel_rfl) ?_)
          all_goals (first | refine sg_take 5 hcalm rfl (by kernel_rfl) (by kernel_rfl) (by kernel_rfl) ?_)
          all_goals (first | refine sg_take 6 hcalm rfl (by kernel_rfl) (by kernel_rfl) (by kernel_rfl) ?_)
          all_goals (first | refine sg_take 7 hcalm rfl (by kernel_rfl) (by kernel_rfl) (by kernel_rfl) ?_)
          all_goals (first | refine sg_take 8 hcalm rfl (by kernel_rfl) (by kernel_rfl) (by kernel_rfl) ?_)
          all_goals (first | refine sg_take 9 hcalm rfl (by kernel_rfl) (by kernel_rfl) (by kernel_rfl) ?_)
          all_goals (first | refine sg_take 10 hcalm rfl (by kernel_rfl) (by kernel_rfl) (by kernel_rfl) (h := runop_idx i (by omega)) ?_ | refine sg_take 10 hcalm rfl (by kernel_rfl) (by kernel_rfl) (by kernel_rfl) ?_)
          all_goals (first | refine sg_take 11 hcalm rfl (by kernel_rfl) (by kernel_rfl) (by kernel_rfl) (h := runop_loadAt ((s.gone ks bs).fN i) (by rw [cellsOf_get hlt, if_pos (by omega)])) ?_ | refine sg_take 11 hcalm rfl (by kernel_rfl) (by kernel_rfl) (by kernel_rfl) ?_)
          all_goals (first | refine sg_take 12 hcalm rfl (by kernel_rfl) (by kernel_rfl) (by kernel_rfl) (h := runop_idx i (by omega)) ?_ | refine sg_take 12 hcalm rfl (by kernel_rfl) (by kernel_rfl) (by kernel_rfl) ?_)
          all_goals (refine sg_one 13 rfl (by kernel_rfl) rfl ?_)
          all_goals (repeat' (first | with_reducible (first | refine sw_op ?_ | refine sw_op_ ?_) | with_reducible refine sw_storeAt (by rw [List.length_append, cellsOf_len]; omega) ?_ | with_reducible refine sg_back ?_ | with_reducible (first | refine sw_nil ?_ | refine sq_then ?_ | refine sc_seq ?_ | refine sc_region ?_ | refine sw_guard_skip ?_ | refine sw_guard_skip_ ?_ | refine sw_guard_run ?_ | refine sc_cond_true ?_ | refine sc_cond_false ?_ | refine sc_ret ?_ | refine sq_then_ret ?_ | refine sc_skip ?_ | refine sc_block ?_ | refine sq_block ?_ | refine sq_block_ret ?_ | refine sc_exit ?_ | refine sq_then_exit ?_ | refine sq_block_exit ?_ | refine sq_block_past ?_ | refine sq_round_ret ?_ | refine sq_round_exit ?_) | fail))
          all_goals (refine sg_done (by kernel_rfl) rfl ?_)
          rw [show (s.gone ks bs).fN i = (s.gone ks bs).fU i by unfold Dk.fU Dk.fN; rw [gone_now], step_set hlt]
          repeat' (first | with_reducible (first | refine sw_op ?_ | refine sw_op_ ?_) | with_reducible (first | refine sw_nil ?_ | refine sq_then ?_ | refine sc_seq ?_ | refine sc_region ?_ | refine sw_guard_skip ?_ | refine sw_guard_skip_ ?_ | refine sw_guard_run ?_ | refine sc_cond_true ?_ | refine sc_cond_false ?_ | refine sc_ret ?_ | refine sq_then_ret ?_ | refine sc_skip ?_ | refine sc_block ?_ | refine sq_block ?_ | refine sq_block_ret ?_ | refine sc_exit ?_ | refine sq_then_exit ?_ | refine sq_block_exit ?_ | refine sq_block_past ?_ | refine sq_round_ret ?_ | refine sq_round_exit ?_) | fail)
          refine sw_idx i (by omega) ?_
          refine sw_storeAt (by rw [List.length_append, cellsOf_len]; omega) ?_
          rw [show (Value.bool false) = (s.gone ks bs).fD i from rfl, step_set hlt]
          repeat' (first | with_reducible (first | refine sw_in (by omega) ?_ | refine sw_op ?_ | refine sw_op_ ?_) | with_reducible (first | refine sw_nil ?_ | refine sq_then ?_ | refine sc_seq ?_ | refine sc_region ?_ | refine sw_guard_skip ?_ | refine sw_guard_skip_ ?_ | refine sw_guard_run ?_ | refine sc_cond_true ?_ | refine sc_cond_false ?_ | refine sc_ret ?_ | refine sq_then_ret ?_ | refine sc_skip ?_ | refine sc_block ?_ | refine sq_block ?_ | refine sq_block_ret ?_ | refine sc_exit ?_ | refine sq_then_exit ?_ | refine sq_block_exit ?_ | refine sq_block_past ?_ | refine sq_round_ret ?_ | refine sq_round_exit ?_) | fail)
          refine sq_round ⟨(i + 1, (n2 + 1)), ⟨hlt, by show (n2 + 1) ≤ i + 1; omega⟩, hat3⟩ ?_ ?_ ?_
          · show s.sure.length - (i + 1) < s.sure.length - i
            omega
          · repeat' (first | exact says_nil | refine says_cons rfl ?_ | refine says_cons (by simp) ?_)
          · repeat' (first | with_reducible exact Ent.refl _ | with_reducible refine Ent.take_eq ?_ ?_ | rfl | with_reducible refine Ent.trans (Ent.drop _ _) ?_)
    · have hdn : s.dirty i = none := by cases hd : s.dirty i with
        | none => rfl
        | some ys => rw [hd] at h; exact absurd rfl h
      have hni : (i : Int) ∉ ks := fun hm => h ((hks.mem i).1 hm)
      have hat3 : AtK ks n2 ((i + 1 : Nat) : Int) := hat.miss hni
      have hzs : (s.gone ks bs).sure[i]? = some ys := by
        have := Dk.gone_miss (bs := bs) hw hks (i := (i : Int)) (by omega) hni
        rw [Int.toNat_natCast, hys] at this
        exact this
      have hnow : s.now i = ys := by rw [Dk.now_sure hdn, Int.toNat_natCast, hys]; rfl
      rw [show strs (fun j => if j < i then (s.gone ks bs).fN j else s.fN j) s.sure.length x.rN = strs (fun j => if j < i + 1 then (s.gone ks bs).fN j else s.fN j) s.sure.length x.rN from congrArg (fun l => Obj.cells (l ++ x.rN).toArray 9 (0, 0)) (step_keep (by unfold Dk.fN; rw [gone_now, hzs, hnow]; rfl))]
      -- n2: how far the keys are
      repeat' (first | with_reducible (first | refine sw_in (by omega) ?_ | refine sw_op ?_ | refine sw_op_ ?_) | with_reducible (first | refine sw_nil ?_ | refine sq_then ?_ | refine sc_seq ?_ | refine sc_region ?_ | refine sw_guard_skip ?_ | refine sw_guard_skip_ ?_ | refine sw_guard_run ?_ | refine sc_cond_true ?_ | refine sc_cond_false ?_ | refine sc_ret ?_ | refine sq_then_ret ?_ | refine sc_skip ?_ | refine sc_block ?_ | refine sq_block ?_ | refine sq_block_ret ?_ | refine sc_exit ?_ | refine sq_then_exit ?_ | refine sq_block_exit ?_ | refine sq_block_past ?_ | refine sq_round_ret ?_ | refine sq_round_exit ?_) | fail)
      refine sc_drawC (m := 14) ([(p, pts p (rrow x.bN x.bU x.bD s.sure.length x.cN x.cU x.cD fuse x.kv calls down)), (x.bN, pts x.bN (strs (fun j => if j < i + 1 then (s.gone ks bs).fN j else s.fN j) s.sure.length x.rN))]) (by repeat' (first | with_reducible exact calm_post | with_reducible refine Calm.then ?_ | with_reducible refine Calm.block ?_ | with_reducible refine Calm.round ?_ | with_reducible refine Calm.mark ?_)) (by kernel_rfl) rfl (fun hcalm => ?_)
      all_goals (first | refine sg_take 0 hcalm rfl (by kernel_rfl) (by kernel_rfl) (by kernel_rfl) ?_)
      all_goals (first | refine sg_take 1 hcalm rfl (by kernel_rfl) (by kernel_rfl) (by kernel_rfl) ?_)
      all_goals (first | refine sg_take 2 hcalm rfl (by kernel_rfl) (by kernel_rfl) (by kernel_rfl) ?_)
      all_goals (first | refine sg_take 3 hcalm rfl (by kernel_rfl) (by kernel_rfl) (by kernel_rfl) ?_)
      all_goals (first | refine sg_take 4 hcalm rfl (by kernel_rfl) (by kernel_rfl) (by kernel_rfl) ?_)
      all_goals (first | refine sg_take 5 hcalm rfl (by kernel_rfl) (by kernel_rfl) (by kernel_rfl) ?_)
      all_goals (first | refine sg_take 6 hcalm rfl (by kernel_rfl) (by kernel_rfl) (by kernel_rfl) ?_)
      all_goals (first | refine sg_take 7 hcalm rfl (by kernel_rfl) (by kernel_rfl) (by kernel_rfl) ?_)
      all_goals (first | refine sg_take 8 hcalm rfl (by kernel_rfl) (by kernel_rfl) (by kernel_rfl) ?_)
      all_goals (first | refine sg_take 9 hcalm rfl (by kernel_rfl) (by kernel_rfl) (by kernel_rfl) ?_)
      all_goals (first | refine sg_take 10 hcalm rfl (by kernel_rfl) (by kernel_rfl) (by kernel_rfl) (h := runop_idx i (by omega)) ?_ | refine sg_take 10 hcalm rfl (by kernel_rfl) (by kernel_rfl) (by kernel_rfl) ?_)
      all_goals (first | refine sg_take 11 hcalm rfl (by kernel_rfl) (by kernel_rfl) (by kernel_rfl) (h := runop_loadAt ((s.gone ks bs).fN i) (by rw [cellsOf_get hlt, if_pos (by omega)])) ?_ | refine sg_take 11 hcalm rfl (by kernel_rfl) (by kernel_rfl) (by kernel_rfl) ?_)
      all_goals (first | refine sg_take 12 hcalm rfl (by kernel_rfl) (by kernel_rfl) (by kernel_rfl) (h := runop_idx i (by omega)) ?_ | refine sg_take 12 hcalm rfl (by kernel_rfl) (by kernel_rfl) (by kernel_rfl) ?_)
      all_goals (refine sg_one 13 rfl (by kernel_rfl) rfl ?_)
      all_goals (repeat' (first | with_reducible (first | refine sw_op ?_ | refine sw_op_ ?_) | with_reducible refine sw_storeAt (by rw [List.length_append, cellsOf_len]; omega) ?_ | with_reducible refine sg_back ?_ | with_reducible (first | refine sw_nil ?_ | refine sq_then ?_ | refine sc_seq ?_ | refine sc_region ?_ | refine sw_guard_skip ?_ | refine sw_guard_skip_ ?_ | refine sw_guard_run ?_ | refine sc_cond_true ?_ | refine sc_cond_false ?_ | refine sc_ret ?_ | refine sq_then_ret ?_ | refine sc_skip ?_ | refine sc_block ?_ | refine sq_block ?_ | refine sq_block_ret ?_ | refine sc_exit ?_ | refine sq_then_exit ?_ | refine sq_block_exit ?_ | refine sq_block_past ?_ | refine sq_round_ret ?_ | refine sq_round_exit ?_) | fail))
      all_goals (refine sg_done (by kernel_rfl) rfl ?_)
      rw [show (s.gone ks bs).fN i = (s.gone ks bs).fU i by unfold Dk.fU Dk.fN; rw [gone_now], step_set hlt]
      repeat' (first | with_reducible (first | refine sw_op ?_ | refine sw_op_ ?_) | with_reducible (first | refine sw_nil ?_ | refine sq_then ?_ | refine sc_seq ?_ | refine sc_region ?_ | refine sw_guard_skip ?_ | refine sw_guard_skip_ ?_ | refine sw_guard_run ?_ | refine sc_cond_true ?_ | refine sc_cond_false ?_ | refine sc_ret ?_ | refine sq_then_ret ?_ | refine sc_skip ?_ | refine sc_block ?_ | refine sq_block ?_ | refine sq_block_ret ?_ | refine sc_exit ?_ | refine sq_then_exit ?_ | refine sq_block_exit ?_ | refine sq_block_past ?_ | refine sq_round_ret ?_ | refine sq_round_exit ?_) | fail)
      refine sw_idx i (by omega) ?_
      refine sw_storeAt (by rw [List.length_append, cellsOf_len]; omega) ?_
      rw [show (Value.bool false) = (s.gone ks bs).fD i from rfl, step_set hlt]
      repeat' (first | with_reducible (first | refine sw_in (by omega) ?_ | refine sw_op ?_ | refine sw_op_ ?_) | with_reducible (first | refine sw_nil ?_ | refine sq_then ?_ | refine sc_seq ?_ | refine sc_region ?_ | refine sw_guard_skip ?_ | refine sw_guard_skip_ ?_ | refine sw_guard_run ?_ | refine sc_cond_true ?_ | refine sc_cond_false ?_ | refine sc_ret ?_ | refine sq_then_ret ?_ | refine sc_skip ?_ | refine sc_block ?_ | refine sq_block ?_ | refine sq_block_ret ?_ | refine sc_exit ?_ | refine sq_then_exit ?_ | refine sq_block_exit ?_ | refine sq_block_past ?_ | refine sq_round_ret ?_ | refine sq_round_exit ?_) | fail)
      refine sq_round ⟨(i + 1, n2), ⟨hlt, by show n2 ≤ i + 1; omega⟩, hat3⟩ ?_ ?_ ?_
      · show s.sure.length - (i + 1) < s.sure.length - i
        omega
      · repeat' (first | exact says_nil | refine says_cons rfl ?_ | refine says_cons (by simp) ?_)
      · repeat' (first | with_reducible exact Ent.refl _ | with_reducible refine Ent.take_eq ?_ ?_ | rfl | with_reducible refine Ent.trans (Ent.drop _ _) ?_)
  · have hin : i = s.sure.length := by omega
    subst hin
    rw [show strs (fun j => if j < s.sure.length then (s.gone ks bs).fN j else s.fN j) s.sure.length x.rN = strs (s.gone ks bs).fN s.sure.length x.rN from row_all,
      show strs (fun j => if j < s.sure.length then (s.gone ks bs).fU j else s.fU j) s.sure.length x.rU = strs (s.gone ks bs).fU s.sure.length x.rU from row_all,
      show bools (fun j => if j < s.sure.length then (s.gone ks bs).fD j else s.fD j) s.sure.length x.rD = bools (s.gone ks bs).fD s.sure.length x.rD from row_all]
    repeat' (first | with_reducible (first | refine sw_op ?_ | refine sw_op_ ?_) | with_reducible refine sw_store ?_ | with_reducible (first | refine sw_nil ?_ | refine sq_then ?_ | refine sc_seq ?_ | refine sc_region ?_ | refine sw_guard_skip ?_ | refine sw_guard_skip_ ?_ | refine sw_guard_run ?_ | refine sc_cond_true ?_ | refine sc_cond_false ?_ | refine sc_ret ?_ | refine sq_then_ret ?_ | refine sc_skip ?_ | refine sc_block ?_ | refine sq_block ?_ | refine sq_block_ret ?_ | refine sc_exit ?_ | refine sq_then_exit ?_ | refine sq_block_exit ?_ | refine sq_block_past ?_ | refine sq_round_ret ?_ | refine sq_round_exit ?_) | fail)
    refine sq_end0 Tryz.results77 ?_
    exact ⟨_, ⟨rfl, rfl⟩, by repeat' (first | with_reducible exact Ent.refl _ | with_reducible refine Ent.take_eq ?_ ?_ | rfl | with_reducible refine Ent.trans (Ent.drop _ _) ?_)⟩
end Go.Gsl

namespace Go.Gsl
set_option linter.unusedVariables false
open Go.Proofs

/-- the dirty ones, in order -/
def Dk.ks (s : Dk) : List Int := ((List.range s.sure.length).filter (fun i : Nat => (s.dirty (i : Int)).isSome)).map (fun i : Nat => (i : Int))
theorem Dk.ks_ok {s : Dk} (hw : s.Wf) : KeysD s.dirty s.ks where
  nodup := by
    unfold Dk.ks
    refine List.Pairwise.map _ (fun a b h => ?_) (List.Pairwise.filter _ (List.nodup_range (n := s.sure.length)))
    intro e; exact h (by omega)
  mem := fun i => by
    unfold Dk.ks
    rw [List.mem_map]
    constructor
    · rintro ⟨a, ha, rfl⟩
      exact (List.mem_filter.1 ha).2
    · intro hi
      obtain ⟨xs, hx⟩ := Option.isSome_iff_exists.1 hi
      have hd := hw.dat i xs hx
      have e : ((i.toNat : Nat) : Int) = i := by omega
      exact ⟨i.toNat, List.mem_filter.2 ⟨List.mem_range.2 (by omega), by rw [e]; exact hi⟩, e⟩
  le := by
    unfold Dk.ks
    have h1 : ((List.range s.sure.length).filter (fun i : Nat => (s.dirty (i : Int)).isSome)).Pairwise (· < ·) := List.Pairwise.filter _ List.pairwise_lt_range
    exact List.Pairwise.map _ (fun a b h => by show (a : Int) ≤ (b : Int); omega) h1

theorem RKeep.gone {kv : Value} {s : Dk} {ks : List Int} {bs : List Bool} {h : Hp} : RKeep kv (s.gone ks bs) h := fun hf => absurd rfl hf
/-- closing it behind a crash -/
theorem REF.gone_close {p : Nat} {s : Dk} {x : RX} {ks : List Int} {bs : List Bool} {fz cl : Int} {q : HProp} {F : List Res} (hx : x.Ok s) (hk : KeysD s.dirty ks) (hc : cl = s.calls) :
    Ent ((p, pts p (rrow x.bN x.bU x.bD s.sure.length x.cN x.cU x.cD 0 x.kv cl true)) :: (x.bN, pts x.bN (strs (s.gone ks bs).fN s.sure.length x.rN)) :: (x.bU, pts x.bU (strs (s.gone ks bs).fU s.sure.length x.rU)) :: (x.bD, pts x.bD (bools (s.gone ks bs).fD s.sure.length x.rD)) :: (x.q, q) :: F) ((p, REF p (s.gone ks bs)) :: F) := by
  refine Ent.trans (Ent.cons _ (Ent.cons _ (Ent.cons _ (Ent.cons _ (Ent.head (k := x.q) (F := F) fun h _ => (RKeep.gone : RKeep x.kv (s.gone ks bs) h)))))) ?_
  refine Ent.trans (B := REFl p (s.gone ks bs) x F) ?_ (REF.close ⟨Dk.gone_wf hx.wf hk, hx.one⟩)
  unfold REFl
  rw [Dk.gone_len, hc]
  exact Ent.refl _

theorem rCrash_bad (p k : Nat) (s : Dk) (r : HProp) (kv : Value) (hb : s.looks 0 ≠ 0) : Spec Tryz.prog 31 [.pointer (some ⟨p, 0, none⟩), kv] [p, k] [REF p s, r]
    fun F v Rs' => v = .int .i64 (s.looks 0) ∧ Rs' = (p, REF p s) :: (k, r) :: F := by
  refine spec_of Tryz.func31 rfl Tryz.ntmps31 rfl ?_
  intro w0 F
  refine REF.sc (p := p) (s := s) fun x hx => ?_
  have hd : s.down = true := by
    cases hd : s.down with
    | true => rfl
    | false => exact absurd (Dk.looks_ok hd (Int.le_refl _) (by have := hx.wf.n1; omega)) hb
  have hl : s.looks 0 = 6 := by unfold Dk.looks; rw [hd]; rfl
  unfold REFl
  repeat' (first | with_reducible (first | refine sw_op ?_ | refine sw_op_ ?_) | with_reducible (first | refine sw_nil ?_ | refine sq_then ?_ | refine sc_seq ?_ | refine sc_region ?_ | refine sw_guard_skip ?_ | refine sw_guard_skip_ ?_ | refine sw_guard_run ?_ | refine sc_cond_true ?_ | refine sc_cond_false ?_ | refine sc_ret ?_ | refine sq_then_ret ?_ | refine sc_skip ?_ | refine sc_block ?_ | refine sq_block ?_ | refine sq_block_ret ?_ | refine sc_exit ?_ | refine sq_then_exit ?_ | refine sq_block_exit ?_ | refine sq_block_past ?_ | refine sq_round_ret ?_ | refine sq_round_exit ?_) | (with_reducible refine sc_cond (fun h => ?_) (fun h => ?_)) <;> (try (exfalso; first | contradiction | omega | exact h Iff.rfl)) | fail)
  refine sq_ret1 Tryz.results31 ?_
  refine ⟨_, ⟨by rw [hl], rfl⟩, Ent.trans (B := REFl p s x ((k, r) :: F)) ?_ (REF.close hx)⟩
  unfold REFl
  repeat' (first | with_reducible exact Ent.refl _ | with_reducible refine Ent.take_eq ?_ ?_ | rfl | with_reducible refine Ent.trans (Ent.drop _ _) ?_)

theorem rCrash_ok (p k : Nat) (s : Dk) (r : HProp) (kv : Value) (bs : List Bool) (hr : RdBools r kv bs) (hl : bs.length ≤ 9223372036854775807) (hb : s.looks 0 = 0) : Spec Tryz.prog 31 [.pointer (some ⟨p, 0, none⟩), kv] [p, k] [REF p s, r]
    fun F v Rs' => ∃ ks, KeysD s.dirty ks ∧ v = .int .i64 0 ∧ Rs' = (p, REF p (s.gone ks bs)) :: (k, r) :: F := by
  have hd := (Dk.looks_zero hb).1
  refine spec_of Tryz.func31 rfl Tryz.ntmps31 rfl ?_
  intro w0 F
  refine REF.sc (p := p) (s := s) fun x hx => ?_
  have hks := Dk.ks_ok hx.wf
  unfold REFl
  rw [hd]
  repeat' (first | with_reducible (first | refine sw_op ?_ | refine sw_op_ ?_) | with_reducible (first | refine sw_nil ?_ | refine sq_then ?_ | refine sc_seq ?_ | refine sc_region ?_ | refine sw_guard_skip ?_ | refine sw_guard_skip_ ?_ | refine sw_guard_run ?_ | refine sc_cond_true ?_ | refine sc_cond_false ?_ | refine sc_ret ?_ | refine sq_then_ret ?_ | refine sc_skip ?_ | refine sc_block ?_ | refine sq_block ?_ | refine sq_block_ret ?_ | refine sc_exit ?_ | refine sq_then_exit ?_ | refine sq_block_exit ?_ | refine sq_block_past ?_ | refine sq_round_ret ?_ | refine sq_round_exit ?_) | (with_reducible refine sc_cond (fun h => ?_) (fun h => ?_)) <;> (try (exfalso; first | contradiction | omega | exact h Iff.rfl)) | fail)
  refine sw_call (rLose_raw p k s x r kv bs s.fuse s.calls false s.ks hx.wf hx.one hr hl hks) ?_
  rintro _ _ ⟨rfl, rfl⟩
  repeat' (first | with_reducible (first | refine sw_op ?_ | refine sw_op_ ?_) | with_reducible (first | refine sw_nil ?_ | refine sq_then ?_ | refine sc_seq ?_ | refine sc_region ?_ | refine sw_guard_skip ?_ | refine sw_guard_skip_ ?_ | refine sw_guard_run ?_ | refine sc_cond_true ?_ | refine sc_cond_false ?_ | refine sc_ret ?_ | refine sq_then_ret ?_ | refine sc_skip ?_ | refine sc_block ?_ | refine sq_block ?_ | refine sq_block_ret ?_ | refine sc_exit ?_ | refine sq_then_exit ?_ | refine sq_block_exit ?_ | refine sq_block_past ?_ | refine sq_round_ret ?_ | refine sq_round_exit ?_) | fail)
  refine sq_ret1 Tryz.results31 ?_
  refine ⟨_, ⟨s.ks, hks, rfl, rfl⟩, Ent.trans ?_ (REF.gone_close (fz := 0) (cl := s.calls) (q := RKeep x.kv s) hx hks rfl)⟩
  repeat' (first | with_reducible exact Ent.refl _ | with_reducible refine Ent.take_eq ?_ ?_ | rfl | with_reducible refine Ent.trans (Ent.drop _ _) ?_)
end Go.Gsl

namespace Go.Gsl
set_option linter.unusedVariables false
open Go.Proofs

theorem rSetFuse_neg (p k : Nat) (s : Dk) (r : HProp) (kv : Value) (n : Int) (hn : n < 0) : Spec Tryz.prog 33 [.pointer (some ⟨p, 0, none⟩), .int .i64 n, kv] [p, k] [REF p s, r]
    fun F v Rs' => v = .int .i64 1 ∧ Rs' = (p, REF p s) :: (k, r) :: F := by
  refine spec_of Tryz.func33 rfl Tryz.ntmps33 rfl ?_
  intro w0 F
  repeat' (first | with_reducible (first | refine sw_op ?_ | refine sw_op_ ?_) | with_reducible (first | refine sw_nil ?_ | refine sq_then ?_ | refine sc_seq ?_ | refine sc_region ?_ | refine sw_guard_skip ?_ | refine sw_guard_skip_ ?_ | refine sw_guard_run ?_ | refine sc_cond_true ?_ | refine sc_cond_false ?_ | refine sc_ret ?_ | refine sq_then_ret ?_ | refine sc_skip ?_ | refine sc_block ?_ | refine sq_block ?_ | refine sq_block_ret ?_ | refine sc_exit ?_ | refine sq_then_exit ?_ | refine sq_block_exit ?_ | refine sq_block_past ?_ | refine sq_round_ret ?_ | refine sq_round_exit ?_) | (with_reducible refine sc_cond (fun h => ?_) (fun h => ?_)) <;> (try (exfalso; first | contradiction | omega | exact h Iff.rfl)) | fail)
  refine sq_ret1 Tryz.results33 ?_
  exact ⟨_, ⟨rfl, rfl⟩, Ent.refl _⟩

theorem rSetFuse_ok (p k : Nat) (s : Dk) (r : HProp) (kv : Value) (bs : List Bool) (n : Int) (hn : 0 ≤ n) (hn2 : n ≤ 9223372036854775807) (hr : RdBools r kv bs) (hl : bs.length ≤ 140737488355328) : Spec Tryz.prog 33 [.pointer (some ⟨p, 0, none⟩), .int .i64 n, kv] [p, k] [REF p s, r]
    fun F v Rs' => v = .int .i64 0 ∧ Rs' = (p, REF p (s.fused n bs)) :: (k, r) :: F := by
  obtain ⟨a, c, rfl, ha, hr⟩ := hr
  refine spec_of Tryz.func33 rfl Tryz.ntmps33 rfl ?_
  intro w0 F
  refine REF.sc (p := p) (s := s) fun x hx => ?_
  haveI : One x.kv := ⟨hx.one⟩
  unfold REFl
  repeat' (first | with_reducible (first | refine sw_op ?_ | refine sw_op_ ?_) | with_reducible refine sw_store ?_ | with_reducible (first | refine sw_nil ?_ | refine sq_then ?_ | refine sc_seq ?_ | refine sc_region ?_ | refine sw_guard_skip ?_ | refine sw_guard_skip_ ?_ | refine sw_guard_run ?_ | refine sc_cond_true ?_ | refine sc_cond_false ?_ | refine sc_ret ?_ | refine sq_then_ret ?_ | refine sc_skip ?_ | refine sc_block ?_ | refine sq_block ?_ | refine sq_block_ret ?_ | refine sc_exit ?_ | refine sq_then_exit ?_ | refine sq_block_exit ?_ | refine sq_block_past ?_ | refine sq_round_ret ?_ | refine sq_round_exit ?_) | (with_reducible refine sc_cond (fun h => ?_) (fun h => ?_)) <;> (try (exfalso; first | contradiction | omega | exact h Iff.rfl)) | fail)
  rcases Nat.eq_zero_or_pos bs.length with hz | hz
  · have hb0 : bs = [] := List.eq_nil_of_length_eq_zero hz
    refine sw_append_nil0 hz ?_
    repeat' (first | with_reducible (first | refine sw_op ?_ | refine sw_op_ ?_) | with_reducible refine sw_store ?_ | with_reducible (first | refine sw_nil ?_ | refine sq_then ?_ | refine sc_seq ?_ | refine sc_region ?_ | refine sw_guard_skip ?_ | refine sw_guard_skip_ ?_ | refine sw_guard_run ?_ | refine sc_cond_true ?_ | refine sc_cond_false ?_ | refine sc_ret ?_ | refine sq_then_ret ?_ | refine sc_skip ?_ | refine sc_block ?_ | refine sq_block ?_ | refine sq_block_ret ?_ | refine sc_exit ?_ | refine sq_then_exit ?_ | refine sq_block_exit ?_ | refine sq_block_past ?_ | refine sq_round_ret ?_ | refine sq_round_exit ?_) | fail)
    refine sq_ret1 Tryz.results33 ?_
    refine ⟨_, ⟨rfl, rfl⟩, Ent.trans (B := REFl p (s.fused n bs) { x with kv := .slice none 0 0 } ((k, r) :: F)) ?_ (REF.close ⟨Dk.fused_wf hx.wf hn hn2 hl, rfl⟩)⟩
    unfold REFl
    refine Ent.take_eq rfl (Ent.take_eq rfl (Ent.take_eq rfl (Ent.take_eq rfl ?_)))
    refine Ent.take (fun h _ _ => .inl ⟨rfl, hb0⟩) ?_
    repeat' (first | with_reducible exact Ent.refl _ | with_reducible refine Ent.take_eq ?_ ?_ | rfl | with_reducible refine Ent.trans (Ent.drop _ _) ?_)
  · refine sw_append_nil (src := bs.map Value.bool) (fun w hw => hr.sat (k := k) hw) ⟨hz, by rw [List.length_map], by omega, by omega⟩ fun b t => ?_
    refine sw_freeze (b := b) ?_
    repeat' (first | with_reducible (first | refine sw_op ?_ | refine sw_op_ ?_) | with_reducible refine sw_store ?_ | with_reducible (first | refine sw_nil ?_ | refine sq_then ?_ | refine sc_seq ?_ | refine sc_region ?_ | refine sw_guard_skip ?_ | refine sw_guard_skip_ ?_ | refine sw_guard_run ?_ | refine sc_cond_true ?_ | refine sc_cond_false ?_ | refine sc_ret ?_ | refine sq_then_ret ?_ | refine sc_skip ?_ | refine sc_block ?_ | refine sq_block ?_ | refine sq_block_ret ?_ | refine sc_exit ?_ | refine sq_then_exit ?_ | refine sq_block_exit ?_ | refine sq_block_past ?_ | refine sq_round_ret ?_ | refine sq_round_exit ?_) | fail)
    refine sq_ret1 Tryz.results33 ?_
    refine ⟨_, ⟨rfl, rfl⟩, Ent.trans (B := REFl p (s.fused n bs) { x with kv := .slice (some ⟨b, 0, none⟩) bs.length (bs.length + t.length) } ((k, r) :: F)) ?_ (REF.close ⟨Dk.fused_wf hx.wf hn hn2 hl, rfl⟩)⟩
    unfold REFl
    refine Ent.take_eq rfl (Ent.take_eq rfl (Ent.take_eq rfl (Ent.take_eq rfl ?_)))
    refine Ent.trans (B := (x.q, RKeep x.kv s) :: (b, imm b (.cells (bs.map Value.bool ++ t).toArray 4 (0, 0))) :: (k, r) :: F) ?_ (Ent.join fun a1 b1 hd _ hi _ => .inr ⟨b, t, rfl, imm_right hd hi⟩)
    repeat' (first | with_reducible exact Ent.refl _ | with_reducible refine Ent.take_eq ?_ ?_ | rfl | with_reducible refine Ent.trans (Ent.drop _ _) ?_)

theorem wrote_now {s : Dk} {a : Int} {xs : List Int} (i : Int) : (s.wrote a xs).now i = if i = a then xs else s.now i := by
  show ((if i = a then some xs else s.dirty i : Option (List Int))).getD ((s.sure[i.toNat]?).getD []) = _
  split <;> rfl
theorem barred_sure {s : Dk} {i : Nat} (h : i < s.sure.length) : s.barred.sure[i]? = some (s.now i) := by
  show (mergeS s.dirty s.sure)[i]? = _
  unfold mergeS Dk.now
  rw [List.getElem?_mapIdx, List.getElem?_eq_getElem h, Int.toNat_natCast, List.getElem?_eq_getElem h]; rfl
theorem barred_now {s : Dk} {i : Nat} (h : i < s.sure.length) : s.barred.now i = s.now i := by
  rw [Dk.now_sure rfl, Int.toNat_natCast, barred_sure h]; rfl

theorem rWrite_bad (p k : Nat) (s : Dk) (r : HProp) (v : Value) (a : Int) (hb : s.looks a ≠ 0) : Spec Tryz.prog 29 [.pointer (some ⟨p, 0, none⟩), .int .i64 a, v] [p, k] [REF p s, r]
    fun F v Rs' => v = .int .i64 (s.looks a) ∧ Rs' = (p, REF p s) :: (k, r) :: F := by
  refine spec_of Tryz.func29 rfl Tryz.ntmps29 rfl ?_
  intro w0 F
  repeat' (first | with_reducible (first | refine sw_op ?_ | refine sw_op_ ?_) | ((with_reducible refine sw_call (rMay_ok p s a) ?_); rintro _ _ ⟨rfl, rfl⟩) | with_reducible (first | refine sw_nil ?_ | refine sq_then ?_ | refine sc_seq ?_ | refine sc_region ?_ | refine sw_guard_skip ?_ | refine sw_guard_skip_ ?_ | refine sw_guard_run ?_ | refine sc_cond_true ?_ | refine sc_cond_false ?_ | refine sc_ret ?_ | refine sq_then_ret ?_ | refine sc_skip ?_ | refine sc_block ?_ | refine sq_block ?_ | refine sq_block_ret ?_ | refine sc_exit ?_ | refine sq_then_exit ?_ | refine sq_block_exit ?_ | refine sq_block_past ?_ | refine sq_round_ret ?_ | refine sq_round_exit ?_) | (with_reducible refine sc_cond (fun h => ?_) (fun h => ?_)) <;> (try (exfalso; first | contradiction | omega | exact h Iff.rfl)) | (with_reducible refine sw_guard_split (fun h => ?_) (fun h => ?_)) <;> (try (exfalso; first | contradiction | omega | exact h Iff.rfl)) | (with_reducible refine sw_pick (fun h => ?_) (fun h => ?_)) <;> (try (exfalso; first | contradiction | omega | exact h Iff.rfl)) | fail)
  refine sq_ret1 Tryz.results29 ?_
  exact ⟨_, ⟨rfl, rfl⟩, Ent.refl _⟩
theorem rWrite_len (p k : Nat) (s : Dk) (r : HProp) (ad : Option Addr) (m c : Nat) (a : Int) (hb : s.looks a = 0) (hm : m ≠ 512) : Spec Tryz.prog 29 [.pointer (some ⟨p, 0, none⟩), .int .i64 a, .slice ad m c] [p, k] [REF p s, r]
    fun F v Rs' => v = .int .i64 1 ∧ Rs' = (p, REF p s) :: (k, r) :: F := by
  refine spec_of Tryz.func29 rfl Tryz.ntmps29 rfl ?_
  intro w0 F
  repeat' (first | with_reducible (first | refine sw_op ?_ | refine sw_op_ ?_) | ((with_reducible refine sw_call (rMay_ok p s a) ?_); rintro _ _ ⟨rfl, rfl⟩) | with_reducible (first | refine sw_nil ?_ | refine sq_then ?_ | refine sc_seq ?_ | refine sc_region ?_ | refine sw_guard_skip ?_ | refine sw_guard_skip_ ?_ | refine sw_guard_run ?_ | refine sc_cond_true ?_ | refine sc_cond_false ?_ | refine sc_ret ?_ | refine sq_then_ret ?_ | refine sc_skip ?_ | refine sc_block ?_ | refine sq_block ?_ | refine sq_block_ret ?_ | refine sc_exit ?_ | refine sq_then_exit ?_ | refine sq_block_exit ?_ | refine sq_block_past ?_ | refine sq_round_ret ?_ | refine sq_round_exit ?_) | (with_reducible refine sc_cond (fun h => ?_) (fun h => ?_)) <;> (try (exfalso; first | contradiction | omega | exact h Iff.rfl)) | (with_reducible refine sw_guard_split (fun h => ?_) (fun h => ?_)) <;> (try (exfalso; first | contradiction | omega | exact h Iff.rfl)) | (with_reducible refine sw_pick (fun h => ?_) (fun h => ?_)) <;> (try (exfalso; first | contradiction | omega | exact h Iff.rfl)) | fail)
  refine sq_ret1 Tryz.results29 ?_
  exact ⟨_, ⟨rfl, rfl⟩, Ent.refl _⟩

set_option maxHeartbeats 1000000 in
theorem rWrite_ok (p k : Nat) (s : Dk) (r : HProp) (ad : Option Addr) (c : Nat) (a : Int) (xs : List Int) (hb : s.looks a = 0) (hx : SecWf xs) (hr : Reads r ad (xs.map (Value.int .u8))) : Spec Tryz.prog 29 [.pointer (some ⟨p, 0, none⟩), .int .i64 a, .slice ad 512 c] [p, k] [REF p s, r]
    fun F v Rs' => (s.fuse ≠ 1 ∧ v = .int .i64 0 ∧ Rs' = (p, REF p (s.wrote a xs)) :: (k, r) :: F) ∨
      (s.fuse = 1 ∧ v = .int .i64 6 ∧ ∃ ks, KeysD (s.wrote a xs).dirty ks ∧ Rs' = (p, REF p ((s.wrote a xs).gone ks s.keep)) :: (k, r) :: F) := by
  obtain ⟨_, ha0, ha1⟩ := Dk.looks_zero hb
  obtain ⟨m, rfl⟩ : ∃ m : Nat, a = m := ⟨a.toNat, by omega⟩
  have hm : m < s.sure.length := by omega
  refine spec_of Tryz.func29 rfl Tryz.ntmps29 rfl ?_
  intro w0 F
  repeat' (first | with_reducible (first | refine sw_op ?_ | refine sw_op_ ?_) | ((with_reducible refine sw_call (rMay_ok p s m) ?_); rintro _ _ ⟨rfl, rfl⟩) | with_reducible (first | refine sw_nil ?_ | refine sq_then ?_ | refine sc_seq ?_ | refine sc_region ?_ | refine sw_guard_skip ?_ | refine sw_guard_skip_ ?_ | refine sw_guard_run ?_ | refine sc_cond_true ?_ | refine sc_cond_false ?_ | refine sc_ret ?_ | refine sq_then_ret ?_ | refine sc_skip ?_ | refine sc_block ?_ | refine sq_block ?_ | refine sq_block_ret ?_ | refine sc_exit ?_ | refine sq_then_exit ?_ | refine sq_block_exit ?_ | refine sq_block_past ?_ | refine sq_round_ret ?_ | refine sq_round_exit ?_) | (with_reducible refine sc_cond (fun h => ?_) (fun h => ?_)) <;> (try (exfalso; first | contradiction | omega | exact h Iff.rfl)) | (with_reducible refine sw_guard_split (fun h => ?_) (fun h => ?_)) <;> (try (exfalso; first | contradiction | omega | exact h Iff.rfl)) | (with_reducible refine sw_pick (fun h => ?_) (fun h => ?_)) <;> (try (exfalso; first | contradiction | omega | exact h Iff.rfl)) | fail)
  refine REF.sw (p := p) (s := s) fun x hX => ?_
  haveI : One x.kv := ⟨hX.one⟩
  unfold REFl
  refine sw_call (rMeets_raw p x.bN x.bU x.bD s.sure.length x.cN x.cU x.cD s.fuse x.kv s.calls s.down hX.wf.f1 hX.wf.f2 hX.one) ?_
  rintro _ _ ⟨rfl, rfl⟩
  repeat' (first | with_reducible (first | refine sw_op ?_ | refine sw_op_ ?_) | with_reducible (first | refine sw_nil ?_ | refine sq_then ?_ | refine sc_seq ?_ | refine sc_region ?_ | refine sw_guard_skip ?_ | refine sw_guard_skip_ ?_ | refine sw_guard_run ?_ | refine sc_cond_true ?_ | refine sc_cond_false ?_ | refine sc_ret ?_ | refine sq_then_ret ?_ | refine sc_skip ?_ | refine sc_block ?_ | refine sq_block ?_ | refine sq_block_ret ?_ | refine sc_exit ?_ | refine sq_then_exit ?_ | refine sq_block_exit ?_ | refine sq_block_past ?_ | refine sq_round_ret ?_ | refine sq_round_exit ?_) | fail)
  refine sc_drawC (m := 9) ([(p, pts p (rrow x.bN x.bU x.bD s.sure.length x.cN x.cU x.cD (if s.fuse = 0 then 0 else s.fuse - 1) x.kv (IntKind.i64.wrap (s.calls + 1)) s.down)), (k, r)]) (by repeat' (first | with_reducible exact calm_post | with_reducible refine Calm.then ?_ | with_reducible refine Calm.block ?_ | with_reducible refine Calm.round ?_ | with_reducible refine Calm.mark ?_)) (by kernel_rfl) rfl (fun hcalm => ?_)
  all_goals (first | refine sg_take 0 hcalm rfl (by kernel_rfl) (by kernel_rfl) (by kernel_rfl) ?_)
  all_goals (first | refine sg_take 1 hcalm rfl (by kernel_rfl) (by kernel_rfl) (by kernel_rfl) ?_)
  all_goals (first | refine sg_take 2 hcalm rfl (by kernel_rfl) (by kernel_rfl) (by kernel_rfl) ?_)
  all_goals (first | refine sg_take 3 hcalm rfl (by kernel_rfl) (by kernel_rfl) (by kernel_rfl) ?_)
  all_goals (first | refine sg_take 4 hcalm rfl (by kernel_rfl) (by kernel_rfl) (by kernel_rfl) ?_)
  all_goals (first | refine sg_take 5 hcalm rfl (by kernel_rfl) (by kernel_rfl) (by kernel_rfl) ?_)
  all_goals (first | refine sg_take 6 hcalm rfl (by kernel_rfl) (by kernel_rfl) (by kernel_rfl) (h := runop_bytes (a := ad) (ns := xs) (fun w hw => hr.sat (k := k) hw) hx.len) ?_ | refine sg_take 6 hcalm rfl (by kernel_rfl) (by kernel_rfl) (by kernel_rfl) ?_)
  all_goals (first | refine sg_take 7 hcalm rfl (by kernel_rfl) (by kernel_rfl) (by kernel_rfl) (h := runop_idx m (by omega)) ?_ | refine sg_take 7 hcalm rfl (by kernel_rfl) (by kernel_rfl) (by kernel_rfl) ?_)
  all_goals (refine sg_one 8 rfl (by kernel_rfl) rfl ?_)
  all_goals (repeat' (first | with_reducible (first | refine sw_op ?_ | refine sw_op_ ?_) | with_reducible refine sw_storeAt (by rw [List.length_append, cellsOf_len]; omega) ?_ | with_reducible refine sg_back ?_ | with_reducible (first | refine sw_nil ?_ | refine sq_then ?_ | refine sc_seq ?_ | refine sc_region ?_ | refine sw_guard_skip ?_ | refine sw_guard_skip_ ?_ | refine sw_guard_run ?_ | refine sc_cond_true ?_ | refine sc_cond_false ?_ | refine sc_ret ?_ | refine sq_then_ret ?_ | refine sc_skip ?_ | refine sc_block ?_ | refine sq_block ?_ | refine sq_block_ret ?_ | refine sc_exit ?_ | refine sq_then_exit ?_ | refine sq_block_exit ?_ | refine sq_block_past ?_ | refine sq_round_ret ?_ | refine sq_round_exit ?_) | fail))
  all_goals (refine sg_done (by kernel_rfl) rfl ?_)
  repeat' (first | with_reducible (first | refine sw_op ?_ | refine sw_op_ ?_) | with_reducible (first | refine sw_nil ?_ | refine sq_then ?_ | refine sc_seq ?_ | refine sc_region ?_ | refine sw_guard_skip ?_ | refine sw_guard_skip_ ?_ | refine sw_guard_run ?_ | refine sc_cond_true ?_ | refine sc_cond_false ?_ | refine sc_ret ?_ | refine sq_then_ret ?_ | refine sc_skip ?_ | refine sc_block ?_ | refine sq_block ?_ | refine sq_block_ret ?_ | refine sc_exit ?_ | refine sq_then_exit ?_ | refine sq_block_exit ?_ | refine sq_block_past ?_ | refine sq_round_ret ?_ | refine sq_round_exit ?_) | fail)
  refine sw_idx m (by omega) ?_
  refine sw_storeAt (by rw [List.length_append, cellsOf_len]; omega) ?_
  rw [cellsOf_set hm, cellsOf_set hm]
  have hwf2 : (s.wrote m xs).Wf := Dk.wrote_wf (Dk.met_wf hX.wf) ha0 ha1 hx
  have eN : cellsOf (fun j => if j = m then Value.string (strB xs) else s.fN j) s.sure.length = cellsOf (s.wrote m xs).fN s.sure.length := cellsOf_congr fun j _ => by
    unfold Dk.fN
    rw [wrote_now]
    by_cases h : j = m
    · rw [if_pos h, if_pos (by omega)]; rfl
    · rw [if_neg h, if_neg (by omega)]
  have eD : cellsOf (fun j => if j = m then Value.bool true else s.fD j) s.sure.length = cellsOf (s.wrote m xs).fD s.sure.length := cellsOf_congr fun j _ => by
    show _ = Value.bool ((if (j : Int) = (m : Int) then some xs else s.dirty j : Option (List Int))).isSome
    by_cases h : j = m
    · rw [if_pos h, if_pos (by omega)]; rfl
    · rw [if_neg h, if_neg (by omega)]; rfl
  rw [eN, eD]
  repeat' (first | with_reducible (first | refine sw_op ?_ | refine sw_op_ ?_) | with_reducible (first | refine sw_nil ?_ | refine sq_then ?_ | refine sc_seq ?_ | refine sc_region ?_ | refine sw_guard_skip ?_ | refine sw_guard_skip_ ?_ | refine sw_guard_run ?_ | refine sc_cond_true ?_ | refine sc_cond_false ?_ | refine sc_ret ?_ | refine sq_then_ret ?_ | refine sc_skip ?_ | refine sc_block ?_ | refine sq_block ?_ | refine sq_block_ret ?_ | refine sc_exit ?_ | refine sq_then_exit ?_ | refine sq_block_exit ?_ | refine sq_block_past ?_ | refine sq_round_ret ?_ | refine sq_round_exit ?_) | (with_reducible refine sc_cond (fun h => ?_) (fun h => ?_)) <;> (try (exfalso; first | contradiction | omega | exact h Iff.rfl)) | fail)
  · have hks := Dk.ks_ok hwf2
    refine sw_ent (Ent.dup_take (k := x.q) (k' := x.q + 1) (r' := BoolsI x.kv s.keep) fun _ hp => (hp (by omega)).fp) ?_
    refine sw_bools (x.q + 1) fun rr hrr => ?_
    repeat' (first | with_reducible (first | refine sw_op ?_ | refine sw_op_ ?_) | with_reducible (first | refine sw_nil ?_ | refine sq_then ?_ | refine sc_seq ?_ | refine sc_region ?_ | refine sw_guard_skip ?_ | refine sw_guard_skip_ ?_ | refine sw_guard_run ?_ | refine sc_cond_true ?_ | refine sc_cond_false ?_ | refine sc_ret ?_ | refine sq_then_ret ?_ | refine sc_skip ?_ | refine sc_block ?_ | refine sq_block ?_ | refine sq_block_ret ?_ | refine sc_exit ?_ | refine sq_then_exit ?_ | refine sq_block_exit ?_ | refine sq_block_past ?_ | refine sq_round_ret ?_ | refine sq_round_exit ?_) | fail)
    refine sw_ent (Rs'' := (p, pts p (rrow x.bN x.bU x.bD (s.wrote m xs).sure.length x.cN x.cU x.cD (s.wrote m xs).fuse x.kv (s.wrote m xs).calls (s.wrote m xs).down)) :: (x.bN, pts x.bN (strs (s.wrote m xs).fN (s.wrote m xs).sure.length x.rN)) :: (x.bU, pts x.bU (strs (s.wrote m xs).fU (s.wrote m xs).sure.length x.rU)) :: (x.bD, pts x.bD (bools (s.wrote m xs).fD (s.wrote m xs).sure.length x.rD)) :: (x.q + 1, rr) :: (x.q, RKeep x.kv s) :: (k, r) :: F) ?_ ?_
    · repeat' (first | with_reducible exact Ent.refl _ | with_reducible refine Ent.take_eq ?_ ?_ | rfl | with_reducible refine Ent.trans (Ent.drop _ _) ?_)
    refine sw_call (rLose_raw p (x.q + 1) (s.wrote m xs) x rr x.kv s.keep _ _ _ (s.wrote m xs).ks hwf2 hX.one hrr hX.wf.k1 hks) ?_
    rintro _ _ ⟨rfl, rfl⟩
    repeat' (first | with_reducible (first | refine sw_op ?_ | refine sw_op_ ?_) | with_reducible (first | refine sw_nil ?_ | refine sq_then ?_ | refine sc_seq ?_ | refine sc_region ?_ | refine sw_guard_skip ?_ | refine sw_guard_skip_ ?_ | refine sw_guard_run ?_ | refine sc_cond_true ?_ | refine sc_cond_false ?_ | refine sc_ret ?_ | refine sq_then_ret ?_ | refine sc_skip ?_ | refine sc_block ?_ | refine sq_block ?_ | refine sq_block_ret ?_ | refine sc_exit ?_ | refine sq_then_exit ?_ | refine sq_block_exit ?_ | refine sq_block_past ?_ | refine sq_round_ret ?_ | refine sq_round_exit ?_) | fail)
    refine sq_ret1 Tryz.results29 ?_
    refine ⟨_, .inr ⟨by assumption, rfl, (s.wrote m xs).ks, hks, rfl⟩, Ent.trans ?_ (REF.gone_close (fz := 0) (cl := (s.wrote m xs).calls) (q := RKeep x.kv s) ⟨hwf2, hX.one⟩ hks rfl)⟩
    repeat' (first | with_reducible exact Ent.refl _ | with_reducible refine Ent.take_eq ?_ ?_ | rfl | with_reducible refine Ent.trans (Ent.drop _ _) ?_)
  · refine sq_ret1 Tryz.results29 ?_
    refine ⟨_, .inl ⟨by assumption, rfl, rfl⟩, Ent.trans (B := REFl p (s.wrote m xs) x ((k, r) :: F)) ?_ (REF.close ⟨hwf2, hX.one⟩)⟩
    unfold REFl
    refine Ent.take_eq rfl (Ent.take_eq rfl (Ent.take_eq rfl (Ent.take_eq rfl ?_)))
    refine Ent.take (fun h hp hf => hp fun e => hf (by show (if s.fuse = 0 then (0 : Int) else s.fuse - 1) = 0; rw [if_pos e])) ?_
    repeat' (first | with_reducible exact Ent.refl _ | with_reducible refine Ent.take_eq ?_ ?_ | rfl | with_reducible refine Ent.trans (Ent.drop _ _) ?_)

theorem rBarrier_bad (p : Nat) (s : Dk) (hb : s.looks 0 ≠ 0) : Spec Tryz.prog 71 [.pointer (some ⟨p, 0, none⟩)] [p] [REF p s]
    fun F v Rs' => v = .int .i64 (s.looks 0) ∧ Rs' = (p, REF p s) :: F := by
  refine spec_of Tryz.func71 rfl Tryz.ntmps71 rfl ?_
  intro w0 F
  refine REF.sc (p := p) (s := s) fun x hx => ?_
  have hd : s.down = true := by
    cases hd : s.down with
    | true => rfl
    | false => exact absurd (Dk.looks_ok hd (Int.le_refl _) (by have := hx.wf.n1; omega)) hb
  have hl : s.looks 0 = 6 := by unfold Dk.looks; rw [hd]; rfl
  unfold REFl
  repeat' (first | with_reducible (first | refine sw_op ?_ | refine sw_op_ ?_) | with_reducible (first | refine sw_nil ?_ | refine sq_then ?_ | refine sc_seq ?_ | refine sc_region ?_ | refine sw_guard_skip ?_ | refine sw_guard_skip_ ?_ | refine sw_guard_run ?_ | refine sc_cond_true ?_ | refine sc_cond_false ?_ | refine sc_ret ?_ | refine sq_then_ret ?_ | refine sc_skip ?_ | refine sc_block ?_ | refine sq_block ?_ | refine sq_block_ret ?_ | refine sc_exit ?_ | refine sq_then_exit ?_ | refine sq_block_exit ?_ | refine sq_block_past ?_ | refine sq_round_ret ?_ | refine sq_round_exit ?_) | (with_reducible refine sc_cond (fun h => ?_) (fun h => ?_)) <;> (try (exfalso; first | contradiction | omega | exact h Iff.rfl)) | fail)
  refine sq_ret1 Tryz.results71 ?_
  refine ⟨_, ⟨by rw [hl], rfl⟩, Ent.trans (B := REFl p s x F) ?_ (REF.close hx)⟩
  unfold REFl
  repeat' (first | with_reducible exact Ent.refl _ | with_reducible refine Ent.take_eq ?_ ?_ | rfl | with_reducible refine Ent.trans (Ent.drop _ _) ?_)

set_option maxHeartbeats 1000000 in
theorem rBarrier_ok (p : Nat) (s : Dk) (hb : s.looks 0 = 0) : Spec Tryz.prog 71 [.pointer (some ⟨p, 0, none⟩)] [p] [REF p s]
    fun F v Rs' => (s.fuse ≠ 1 ∧ v = .int .i64 0 ∧ Rs' = (p, REF p s.barred) :: F) ∨
      (s.fuse = 1 ∧ v = .int .i64 6 ∧ ∃ ks, KeysD s.dirty ks ∧ Rs' = (p, REF p (s.met.gone ks s.keep)) :: F) := by
  have hd := (Dk.looks_zero hb).1
  refine spec_of Tryz.func71 rfl Tryz.ntmps71 rfl ?_
  intro w0 F
  refine REF.sc (p := p) (s := s) fun x hX => ?_
  haveI : One x.kv := ⟨hX.one⟩
  have hn2 := hX.wf.n2
  unfold REFl
  rw [hd]
  repeat' (first | with_reducible (first | refine sw_op ?_ | refine sw_op_ ?_) | with_reducible (first | refine sw_nil ?_ | refine sq_then ?_ | refine sc_seq ?_ | refine sc_region ?_ | refine sw_guard_skip ?_ | refine sw_guard_skip_ ?_ | refine sw_guard_run ?_ | refine sc_cond_true ?_ | refine sc_cond_false ?_ | refine sc_ret ?_ | refine sq_then_ret ?_ | refine sc_skip ?_ | refine sc_block ?_ | refine sq_block ?_ | refine sq_block_ret ?_ | refine sc_exit ?_ | refine sq_then_exit ?_ | refine sq_block_exit ?_ | refine sq_block_past ?_ | refine sq_round_ret ?_ | refine sq_round_exit ?_) | (with_reducible refine sc_cond (fun h => ?_) (fun h => ?_)) <;> (try (exfalso; first | contradiction | omega | exact h Iff.rfl)) | fail)
  refine sw_call (rMeets_raw p x.bN x.bU x.bD s.sure.length x.cN x.cU x.cD s.fuse x.kv s.calls false hX.wf.f1 hX.wf.f2 hX.one) ?_
  rintro _ _ ⟨rfl, rfl⟩
  have hwf2 : s.met.Wf := Dk.met_wf hX.wf
  repeat' (first | with_reducible (first | refine sw_op ?_ | refine sw_op_ ?_) | with_reducible (first | refine sw_nil ?_ | refine sq_then ?_ | refine sc_seq ?_ | refine sc_region ?_ | refine sw_guard_skip ?_ | refine sw_guard_skip_ ?_ | refine sw_guard_run ?_ | refine sc_cond_true ?_ | refine sc_cond_false ?_ | refine sc_ret ?_ | refine sq_then_ret ?_ | refine sc_skip ?_ | refine sc_block ?_ | refine sq_block ?_ | refine sq_block_ret ?_ | refine sc_exit ?_ | refine sq_then_exit ?_ | refine sq_block_exit ?_ | refine sq_block_past ?_ | refine sq_round_ret ?_ | refine sq_round_exit ?_) | (with_reducible refine sc_cond (fun h => ?_) (fun h => ?_)) <;> (try (exfalso; first | contradiction | omega | exact h Iff.rfl)) | fail)
  · have hks := Dk.ks_ok hwf2
    refine sw_ent (Ent.dup_take (k := x.q) (k' := x.q + 1) (r' := BoolsI x.kv s.keep) fun _ hp => (hp (by omega)).fp) ?_
    refine sw_bools (x.q + 1) fun rr hrr => ?_
    repeat' (first | with_reducible (first | refine sw_op ?_ | refine sw_op_ ?_) | with_reducible (first | refine sw_nil ?_ | refine sq_then ?_ | refine sc_seq ?_ | refine sc_region ?_ | refine sw_guard_skip ?_ | refine sw_guard_skip_ ?_ | refine sw_guard_run ?_ | refine sc_cond_true ?_ | refine sc_cond_false ?_ | refine sc_ret ?_ | refine sq_then_ret ?_ | refine sc_skip ?_ | refine sc_block ?_ | refine sq_block ?_ | refine sq_block_ret ?_ | refine sc_exit ?_ | refine sq_then_exit ?_ | refine sq_block_exit ?_ | refine sq_block_past ?_ | refine sq_round_ret ?_ | refine sq_round_exit ?_) | fail)
    refine sw_ent (Rs'' := (p, pts p (rrow x.bN x.bU x.bD s.met.sure.length x.cN x.cU x.cD s.met.fuse x.kv s.met.calls false)) :: (x.bN, pts x.bN (strs s.met.fN s.met.sure.length x.rN)) :: (x.bU, pts x.bU (strs s.met.fU s.met.sure.length x.rU)) :: (x.bD, pts x.bD (bools s.met.fD s.met.sure.length x.rD)) :: (x.q + 1, rr) :: (x.q, RKeep x.kv s) :: F) ?_ ?_
    · repeat' (first | with_reducible exact Ent.refl _ | with_reducible refine Ent.take_eq ?_ ?_ | rfl | with_reducible refine Ent.trans (Ent.drop _ _) ?_)
    refine sw_call (rLose_raw p (x.q + 1) s.met x rr x.kv s.keep _ _ _ s.met.ks hwf2 hX.one hrr hX.wf.k1 hks) ?_
    rintro _ _ ⟨rfl, rfl⟩
    repeat' (first | with_reducible (first | refine sw_op ?_ | refine sw_op_ ?_) | with_reducible (first | refine sw_nil ?_ | refine sq_then ?_ | refine sc_seq ?_ | refine sc_region ?_ | refine sw_guard_skip ?_ | refine sw_guard_skip_ ?_ | refine sw_guard_run ?_ | refine sc_cond_true ?_ | refine sc_cond_false ?_ | refine sc_ret ?_ | refine sq_then_ret ?_ | refine sc_skip ?_ | refine sc_block ?_ | refine sq_block ?_ | refine sq_block_ret ?_ | refine sc_exit ?_ | refine sq_then_exit ?_ | refine sq_block_exit ?_ | refine sq_block_past ?_ | refine sq_round_ret ?_ | refine sq_round_exit ?_) | fail)
    refine sq_ret1 Tryz.results71 ?_
    refine ⟨_, .inr ⟨by assumption, rfl, s.met.ks, hks, rfl⟩, Ent.trans ?_ (REF.gone_close (fz := 0) (cl := s.met.calls) (q := RKeep x.kv s) ⟨hwf2, hX.one⟩ hks rfl)⟩
    repeat' (first | with_reducible exact Ent.refl _ | with_reducible refine Ent.take_eq ?_ ?_ | rfl | with_reducible refine Ent.trans (Ent.drop _ _) ?_)
  · refine sc_loop (α := { i : Nat // i ≤ s.sure.length }) (fun i => [(0, .pointer (some ⟨p, 0, none⟩)), (3, .int .i64 i.1)])
      (fun i => (p, pts p (rrow x.bN x.bU x.bD s.sure.length x.cN x.cU x.cD (if s.fuse = 0 then 0 else s.fuse - 1) x.kv (IntKind.i64.wrap (s.calls + 1)) false)) :: (x.bN, pts x.bN (strs s.fN s.sure.length x.rN)) :: (x.bU, pts x.bU (strs (fun j => if j < i.1 then s.fN j else s.fU j) s.sure.length x.rU)) :: (x.bD, pts x.bD (bools (fun j => if j < i.1 then Value.bool false else s.fD j) s.sure.length x.rD)) :: (x.q, RKeep x.kv s) :: F)
      (fun i => s.sure.length - i.1) ⟨0, Nat.zero_le _⟩ ?_ ?_ ?_
    · repeat' (first | exact says_nil | refine says_cons rfl ?_ | refine says_cons (by simp) ?_)
    · dsimp only
      repeat' (first | with_reducible exact Ent.refl _ | with_reducible refine Ent.take_eq ?_ ?_ | rfl | with_reducible refine Ent.trans (Ent.drop _ _) ?_)
    rintro ⟨i, hi⟩ e
    simp only [List.cons_append, List.nil_append]
    haveI : One (s.fN i) := ⟨rfl⟩
    repeat' (first | with_reducible (first | refine sw_op ?_ | refine sw_op_ ?_) | with_reducible (first | refine sw_nil ?_ | refine sq_then ?_ | refine sc_seq ?_ | refine sc_region ?_ | refine sw_guard_skip ?_ | refine sw_guard_skip_ ?_ | refine sw_guard_run ?_ | refine sc_cond_true ?_ | refine sc_cond_false ?_ | refine sc_ret ?_ | refine sq_then_ret ?_ | refine sc_skip ?_ | refine sc_block ?_ | refine sq_block ?_ | refine sq_block_ret ?_ | refine sc_exit ?_ | refine sq_then_exit ?_ | refine sq_block_exit ?_ | refine sq_block_past ?_ | refine sq_round_ret ?_ | refine sq_round_exit ?_) | (with_reducible refine sc_cond (fun h => ?_) (fun h => ?_)) <;> (try (exfalso; first | contradiction | omega | exact h Iff.rfl)) | fail)
    · have hlt : i < s.sure.length := by omega
      refine sc_drawC (m := 14) ([(p, pts p (rrow x.bN x.bU x.bD s.sure.length x.cN x.cU x.cD (if s.fuse = 0 then 0 else s.fuse - 1) x.kv (IntKind.i64.wrap (s.calls + 1)) false)), (x.bN, pts x.bN (strs s.fN s.sure.length x.rN))]) (by repeat' (first | with_reducible exact calm_post | with_reducible refine Calm.then ?_ | with_reducible refine Calm.block ?_ | with_reducible refine Calm.round ?_ | with_reducible refine Calm.mark ?_)) (by kernel_rfl) rfl (fun hcalm => ?_)
      all_goals (first | refine sg_take 0 hcalm rfl (by kernel_rfl) (by kernel_rfl) (by kernel_rfl) ?_)
      all_goals (first | refine sg_take 1 hcalm rfl (by kernel_rfl) (by kernel_rfl) (by kernel_rfl) ?_)
      all_goals (first | refine sg_take 2 hcalm rfl (by kernel_rfl) (by kernel_rfl) (by kernel_rfl) ?_)
      all_goals (first | refine sg_take 3 hcalm rfl (by kernel_rfl) (by kernel_rfl) (by kernel_rfl) ?_)
      all_goals (first | refine sg_take 4 hcalm rfl (by kernel_rfl) (by kernel_rfl) (by kernel_rfl) ?_)
      all_goals (first | refine sg_take 5 hcalm rfl (by kernel_rfl) (by kernel_rfl) (by kernel_rfl) ?_)
      all_goals (first | refine sg_take 6 hcalm rfl (by kernel_rfl) (by kernel_rfl) (by kernel_rfl) ?_)
      all_goals (first | refine sg_take 7 hcalm rfl (by kernel_rfl) (by kernel_rfl) (by kernel_rfl) ?_)
      all_goals (first | refine sg_take 8 hcalm rfl (by kernel_rfl) (by kernel_rfl) (by kernel_rfl) ?_)
      all_goals (first | refine sg_take 9 hcalm rfl (by kernel_rfl) (by kernel_rfl) (by kernel_rfl) ?_)
      all_goals (first | refine sg_take 10 hcalm rfl (by kernel_rfl) (by kernel_rfl) (by kernel_rfl) (h := runop_idx i (by omega)) ?_ | refine sg_take 10 hcalm rfl (by kernel_rfl) (by kernel_rfl) (by kernel_rfl) ?_)
      all_goals (first | refine sg_take 11 hcalm rfl (by kernel_rfl) (by kernel_rfl) (by kernel_rfl) (h := runop_loadAt (s.fN i) (cellsOf_get hlt)) ?_ | refine sg_take 11 hcalm rfl (by kernel_rfl) (by kernel_rfl) (by kernel_rfl) ?_)
      all_goals (first | refine sg_take 12 hcalm rfl (by kernel_rfl) (by kernel_rfl) (by kernel_rfl) (h := runop_idx i (by omega)) ?_ | refine sg_take 12 hcalm rfl (by kernel_rfl) (by kernel_rfl) (by kernel_rfl) ?_)
      all_goals (refine sg_one 13 rfl (by kernel_rfl) rfl ?_)
      all_goals (repeat' (first | with_reducible (first | refine sw_op ?_ | refine sw_op_ ?_) | with_reducible refine sw_storeAt (by rw [List.length_append, cellsOf_len]; omega) ?_ | with_reducible refine sg_back ?_ | with_reducible (first | refine sw_nil ?_ | refine sq_then ?_ | refine sc_seq ?_ | refine sc_region ?_ | refine sw_guard_skip ?_ | refine sw_guard_skip_ ?_ | refine sw_guard_run ?_ | refine sc_cond_true ?_ | refine sc_cond_false ?_ | refine sc_ret ?_ | refine sq_then_ret ?_ | refine sc_skip ?_ | refine sc_block ?_ | refine sq_block ?_ | refine sq_block_ret ?_ | refine sc_exit ?_ | refine sq_then_exit ?_ | refine sq_block_exit ?_ | refine sq_block_past ?_ | refine sq_round_ret ?_ | refine sq_round_exit ?_) | fail))
      all_goals (refine sg_done (by kernel_rfl) rfl ?_)
      rw [step_set hlt]
      repeat' (first | with_reducible (first | refine sw_op ?_ | refine sw_op_ ?_) | with_reducible (first | refine sw_nil ?_ | refine sq_then ?_ | refine sc_seq ?_ | refine sc_region ?_ | refine sw_guard_skip ?_ | refine sw_guard_skip_ ?_ | refine sw_guard_run ?_ | refine sc_cond_true ?_ | refine sc_cond_false ?_ | refine sc_ret ?_ | refine sq_then_ret ?_ | refine sc_skip ?_ | refine sc_block ?_ | refine sq_block ?_ | refine sq_block_ret ?_ | refine sc_exit ?_ | refine sq_then_exit ?_ | refine sq_block_exit ?_ | refine sq_block_past ?_ | refine sq_round_ret ?_ | refine sq_round_exit ?_) | fail)
      refine sw_idx i (by omega) ?_
      refine sw_storeAt (by rw [List.length_append, cellsOf_len]; omega) ?_
      rw [step_set (A := fun _ => Value.bool false) hlt]
      repeat' (first | with_reducible (first | refine sw_in (by omega) ?_ | refine sw_op ?_ | refine sw_op_ ?_) | with_reducible (first | refine sw_nil ?_ | refine sq_then ?_ | refine sc_seq ?_ | refine sc_region ?_ | refine sw_guard_skip ?_ | refine sw_guard_skip_ ?_ | refine sw_guard_run ?_ | refine sc_cond_true ?_ | refine sc_cond_false ?_ | refine sc_ret ?_ | refine sq_then_ret ?_ | refine sc_skip ?_ | refine sc_block ?_ | refine sq_block ?_ | refine sq_block_ret ?_ | refine sc_exit ?_ | refine sq_then_exit ?_ | refine sq_block_exit ?_ | refine sq_block_past ?_ | refine sq_round_ret ?_ | refine sq_round_exit ?_) | fail)
      refine sq_round ⟨i + 1, hlt⟩ ?_ ?_ ?_
      · show s.sure.length - (i + 1) < s.sure.length - i
        omega
      · repeat' (first | exact says_nil | refine says_cons rfl ?_ | refine says_cons (by simp) ?_)
      · repeat' (first | with_reducible exact Ent.refl _ | with_reducible refine Ent.take_eq ?_ ?_ | rfl | with_reducible refine Ent.trans (Ent.drop _ _) ?_)
    · have hin : i = s.sure.length := by omega
      subst hin
      refine sq_ret1 Tryz.results71 ?_
      refine ⟨_, .inl ⟨by assumption, rfl, rfl⟩, Ent.trans (B := REFl p s.barred x F) ?_ (REF.close ⟨Dk.barred_wf hwf2, hX.one⟩)⟩
      unfold REFl
      rw [Dk.barred_len]
      have eN : strs s.fN s.sure.length x.rN = strs s.barred.fN s.sure.length x.rN := row_congr fun j hj => by unfold Dk.fN; rw [barred_now hj]
      have eU : strs (fun j => if j < s.sure.length then s.fN j else s.fU j) s.sure.length x.rU = strs s.barred.fU s.sure.length x.rU := row_congr fun j hj => by
        rw [if_pos hj]
        unfold Dk.fN Dk.fU
        rw [barred_sure hj]; rfl
      have eD : bools (fun j => if j < s.sure.length then Value.bool false else s.fD j) s.sure.length x.rD = bools s.barred.fD s.sure.length x.rD := row_congr fun j hj => by rw [if_pos hj]; rfl
      rw [eN, eU, eD]
      refine Ent.take_eq (by rw [← hd]; rfl) (Ent.take_eq rfl (Ent.take_eq rfl (Ent.take_eq rfl ?_)))
      refine Ent.take (fun h hp hf => hp fun e => hf (by show (if s.fuse = 0 then (0 : Int) else s.fuse - 1) = 0; rw [if_pos e])) ?_
      repeat' (first | with_reducible exact Ent.refl _ | with_reducible refine Ent.take_eq ?_ ?_ | rfl | with_reducible refine Ent.trans (Ent.drop _ _) ?_)
end Go.Gsl

namespace Go.Gsl
set_option linter.unusedVariables false
open Go.Proofs

theorem rNew_bad (n : Int) (hn : n < 1 ∨ 16384 < n) : Spec Tryz.prog 6 [.int .i64 n] [] [] fun F v Rs' => v = .tuple #[.pointer none, .int .i64 1] ∧ Rs' = F := by
  refine spec_of Tryz.func6 rfl Tryz.ntmps6 rfl ?_
  intro w0 F
  repeat' (first | with_reducible (first | refine sw_op ?_ | refine sw_op_ ?_) | with_reducible (first | refine sw_nil ?_ | refine sq_then ?_ | refine sc_seq ?_ | refine sc_region ?_ | refine sw_guard_skip ?_ | refine sw_guard_skip_ ?_ | refine sw_guard_run ?_ | refine sc_cond_true ?_ | refine sc_cond_false ?_ | refine sc_ret ?_ | refine sq_then_ret ?_ | refine sc_skip ?_ | refine sc_block ?_ | refine sq_block ?_ | refine sq_block_ret ?_ | refine sc_exit ?_ | refine sq_then_exit ?_ | refine sq_block_exit ?_ | refine sq_block_past ?_ | refine sq_round_ret ?_ | refine sq_round_exit ?_) | (with_reducible refine sc_cond (fun h => ?_) (fun h => ?_)) <;> (try (exfalso; first | contradiction | omega | exact h Iff.rfl)) | (with_reducible refine sw_guard_split (fun h => ?_) (fun h => ?_)) <;> (try (exfalso; first | contradiction | omega | exact h Iff.rfl)) | (with_reducible refine sw_pick (fun h => ?_) (fun h => ?_)) <;> (try (exfalso; first | contradiction | omega | exact h Iff.rfl)) | fail)
  all_goals
    refine sq_ret2 Tryz.results6 ?_
    exact ⟨_, ⟨rfl, rfl⟩, Ent.refl _⟩

abbrev rrow0 (bD n : Nat) : Obj := .cells [.slice none 0 0, .slice none 0 0, .slice (some ⟨bD, 0, none⟩) n n, .int .i64 0, .slice none 0 0, .int .i64 0, .bool false].toArray 71 (0, 0)
abbrev rrowG (bN bU bD i n cN cU : Nat) : Obj := .cells [.slice (some ⟨bN, 0, none⟩) i cN, .slice (some ⟨bU, 0, none⟩) i cU, .slice (some ⟨bD, 0, none⟩) n n, .int .i64 0, .slice none 0 0, .int .i64 0, .bool false].toArray 71 (0, 0)
/-- the rows that grow -/
def RNewB (p bD n i : Nat) : HProp := hor (hand (i = 0) (hall [(p, pts p (rrow0 bD n))]))
  (hex fun y : (Nat × Nat) × List Value × List Value => hall [(p, pts p (rrowG y.1.1 y.1.2 bD i n (i + y.2.1.length) (i + y.2.2.length))), (y.1.1, pts y.1.1 (strs (fun _ => strV (List.replicate 512 0)) i y.2.1)), (y.1.2, pts y.1.2 (strs (fun _ => strV (List.replicate 512 0)) i y.2.2))])

theorem cellsOf_one (z : Value) : [z] = cellsOf (fun _ => z) 1 := rfl
theorem cellsOf_next (z : Value) (i : Nat) (r r2 : List Value) : (cellsOf (fun _ => z) i ++ r).take i ++ [z] ++ r2 = cellsOf (fun _ => z) (i + 1) ++ r2 := by
  rw [List.take_left' (cellsOf_len _ _)]
  congr 1
  unfold cellsOf
  rw [List.range_succ, List.map_append]; rfl

set_option maxHeartbeats 1000000 in
set_option maxRecDepth 20000 in
theorem rNew_ok (n : Nat) (h1 : 1 ≤ n) (h2 : n ≤ 16384) : Spec Tryz.prog 6 [.int .i64 n] [] [] fun F v Rs' => ∃ p, v = .tuple #[.pointer (some ⟨p, 0, none⟩), .int .i64 0] ∧ Rs' = (p, REF p (Dk.new n)) :: F := by
  haveI : One (strV (List.replicate 512 0)) := ⟨rfl⟩
  refine spec_of Tryz.func6 rfl Tryz.ntmps6 rfl ?_
  intro w0 F
  repeat' (first | with_reducible (first | refine sw_op ?_ | refine sw_op_ ?_) | with_reducible refine sw_makeSlice 512 512 ⟨rfl, rfl, by omega, by omega, by omega⟩ fun bz => ?_ | with_reducible (first | refine sw_nil ?_ | refine sq_then ?_ | refine sc_seq ?_ | refine sc_region ?_ | refine sw_guard_skip ?_ | refine sw_guard_skip_ ?_ | refine sw_guard_run ?_ | refine sc_cond_true ?_ | refine sc_cond_false ?_ | refine sc_ret ?_ | refine sq_then_ret ?_ | refine sc_skip ?_ | refine sc_block ?_ | refine sq_block ?_ | refine sq_block_ret ?_ | refine sc_exit ?_ | refine sq_then_exit ?_ | refine sq_block_exit ?_ | refine sq_block_past ?_ | refine sq_round_ret ?_ | refine sq_round_exit ?_) | (with_reducible refine sc_cond (fun h => ?_) (fun h => ?_)) <;> (try (exfalso; first | contradiction | omega | exact h Iff.rfl)) | (with_reducible refine sw_guard_split (fun h => ?_) (fun h => ?_)) <;> (try (exfalso; first | contradiction | omega | exact h Iff.rfl)) | (with_reducible refine sw_pick (fun h => ?_) (fun h => ?_)) <;> (try (exfalso; first | contradiction | omega | exact h Iff.rfl)) | fail)
  refine sw_bytes (List.replicate 512 0) ?_ (by rw [List.length_replicate]) ?_
  · exact fun w hw => reads_zeros.sat (k := bz) hw
  repeat' (first | with_reducible (first | refine sw_op ?_ | refine sw_op_ ?_) | with_reducible (first | refine sw_nil ?_ | refine sq_then ?_ | refine sc_seq ?_ | refine sc_region ?_ | refine sw_guard_skip ?_ | refine sw_guard_skip_ ?_ | refine sw_guard_run ?_ | refine sc_cond_true ?_ | refine sc_cond_false ?_ | refine sc_ret ?_ | refine sq_then_ret ?_ | refine sc_skip ?_ | refine sc_block ?_ | refine sq_block ?_ | refine sq_block_ret ?_ | refine sc_exit ?_ | refine sq_then_exit ?_ | refine sq_block_exit ?_ | refine sq_block_past ?_ | refine sq_round_ret ?_ | refine sq_round_exit ?_) | fail)
  refine sw_makeSlice n n ⟨rfl, rfl, by omega, by omega, by omega⟩ fun bD => ?_
  refine sw_build [.slice none 0 0, .slice none 0 0, .slice (some ⟨bD, 0, none⟩) n n, .int .i64 0, .slice none 0 0, .int .i64 0, .bool false] rfl ?_
  refine sw_box fun p => ?_
  repeat' (first | with_reducible (first | refine sw_op ?_ | refine sw_op_ ?_) | with_reducible (first | refine sw_nil ?_ | refine sq_then ?_ | refine sc_seq ?_ | refine sc_region ?_ | refine sw_guard_skip ?_ | refine sw_guard_skip_ ?_ | refine sw_guard_run ?_ | refine sc_cond_true ?_ | refine sc_cond_false ?_ | refine sc_ret ?_ | refine sq_then_ret ?_ | refine sc_skip ?_ | refine sc_block ?_ | refine sq_block ?_ | refine sq_block_ret ?_ | refine sc_exit ?_ | refine sq_then_exit ?_ | refine sq_block_exit ?_ | refine sq_block_past ?_ | refine sq_round_ret ?_ | refine sq_round_exit ?_) | fail)
  refine sc_loop (α := { i : Nat // i ≤ n }) (fun i => [(0, .int .i64 n), (4, strV (List.replicate 512 0)), (5, .pointer (some ⟨p, 0, none⟩)), (6, .int .i64 i.1)])
    (fun i => (p, RNewB p bD n i.1) :: (bD, pts bD (.cells (List.replicate n (Value.bool false)).toArray 4 (0, 0))) :: F) (fun i => n - i.1) ⟨0, Nat.zero_le _⟩ ?_ ?_ ?_
  · repeat' (first | exact says_nil | refine says_cons rfl ?_ | refine says_cons (by simp) ?_)
  · refine Ent.or1 (Ent.and1 rfl (Ent.hall1 ?_))
    simp only [List.cons_append, List.nil_append]
    repeat' (first | with_reducible exact Ent.refl _ | with_reducible refine Ent.take_eq ?_ ?_ | rfl | with_reducible refine Ent.trans (Ent.drop _ _) ?_)
  rintro ⟨i, hi⟩ e
  simp only [List.cons_append, List.nil_append]
  repeat' (first | with_reducible (first | refine sw_op ?_ | refine sw_op_ ?_) | with_reducible (first | refine sw_nil ?_ | refine sq_then ?_ | refine sc_seq ?_ | refine sc_region ?_ | refine sw_guard_skip ?_ | refine sw_guard_skip_ ?_ | refine sw_guard_run ?_ | refine sc_cond_true ?_ | refine sc_cond_false ?_ | refine sc_ret ?_ | refine sq_then_ret ?_ | refine sc_skip ?_ | refine sc_block ?_ | refine sq_block ?_ | refine sq_block_ret ?_ | refine sc_exit ?_ | refine sq_then_exit ?_ | refine sq_block_exit ?_ | refine sq_block_past ?_ | refine sq_round_ret ?_ | refine sq_round_exit ?_) | (with_reducible refine sc_cond (fun h => ?_) (fun h => ?_)) <;> (try (exfalso; first | contradiction | omega | exact h Iff.rfl)) | fail)
  · unfold RNewB
    have hlt : i < n := by omega
    refine sw_or p (sw_and p fun hp0 => sw_hall p ?_) (sw_ex p fun y => sw_hall p ?_)
    · subst hp0
      simp only [List.cons_append, List.nil_append]
      repeat' (first | with_reducible (first | refine sw_op ?_ | refine sw_op_ ?_) | with_reducible (first | refine sw_nil ?_ | refine sq_then ?_ | refine sc_seq ?_ | refine sc_region ?_ | refine sw_guard_skip ?_ | refine sw_guard_skip_ ?_ | refine sw_guard_run ?_ | refine sc_cond_true ?_ | refine sc_cond_false ?_ | refine sc_ret ?_ | refine sq_then_ret ?_ | refine sc_skip ?_ | refine sc_block ?_ | refine sq_block ?_ | refine sq_block_ret ?_ | refine sc_exit ?_ | refine sq_then_exit ?_ | refine sq_block_exit ?_ | refine sq_block_past ?_ | refine sq_round_ret ?_ | refine sq_round_exit ?_) | fail)
      refine sw_buildSlice [strV (List.replicate 512 0)] (by omega) rfl fun b0 => ?_
      repeat' (first | with_reducible (first | refine sw_op ?_ | refine sw_op_ ?_) | with_reducible (first | refine sw_nil ?_ | refine sq_then ?_ | refine sc_seq ?_ | refine sc_region ?_ | refine sw_guard_skip ?_ | refine sw_guard_skip_ ?_ | refine sw_guard_run ?_ | refine sc_cond_true ?_ | refine sc_cond_false ?_ | refine sc_ret ?_ | refine sq_then_ret ?_ | refine sc_skip ?_ | refine sc_block ?_ | refine sq_block ?_ | refine sq_block_ret ?_ | refine sc_exit ?_ | refine sq_then_exit ?_ | refine sq_block_exit ?_ | refine sq_block_past ?_ | refine sq_round_ret ?_ | refine sq_round_exit ?_) | fail)
      refine sw_append_nil (src := [strV (List.replicate 512 0)]) src_pts0 ⟨by simp, rfl, by simp, by simp⟩ fun bN rN => ?_
      repeat' (first | with_reducible (first | refine sw_op ?_ | refine sw_op_ ?_) | with_reducible refine sw_store ?_ | with_reducible (first | refine sw_nil ?_ | refine sq_then ?_ | refine sc_seq ?_ | refine sc_region ?_ | refine sw_guard_skip ?_ | refine sw_guard_skip_ ?_ | refine sw_guard_run ?_ | refine sc_cond_true ?_ | refine sc_cond_false ?_ | refine sc_ret ?_ | refine sq_then_ret ?_ | refine sc_skip ?_ | refine sc_block ?_ | refine sq_block ?_ | refine sq_block_ret ?_ | refine sc_exit ?_ | refine sq_then_exit ?_ | refine sq_block_exit ?_ | refine sq_block_past ?_ | refine sq_round_ret ?_ | refine sq_round_exit ?_) | fail)
      refine sw_buildSlice [strV (List.replicate 512 0)] (by omega) rfl fun b1 => ?_
      repeat' (first | with_reducible (first | refine sw_op ?_ | refine sw_op_ ?_) | with_reducible (first | refine sw_nil ?_ | refine sq_then ?_ | refine sc_seq ?_ | refine sc_region ?_ | refine sw_guard_skip ?_ | refine sw_guard_skip_ ?_ | refine sw_guard_run ?_ | refine sc_cond_true ?_ | refine sc_cond_false ?_ | refine sc_ret ?_ | refine sq_then_ret ?_ | refine sc_skip ?_ | refine sc_block ?_ | refine sq_block ?_ | refine sq_block_ret ?_ | refine sc_exit ?_ | refine sq_then_exit ?_ | refine sq_block_exit ?_ | refine sq_block_past ?_ | refine sq_round_ret ?_ | refine sq_round_exit ?_) | fail)
      refine sw_append_nil (src := [strV (List.replicate 512 0)]) src_pts0 ⟨by simp, rfl, by simp, by simp⟩ fun bU rU => ?_
      repeat' (first | with_reducible (first | refine sw_in (by omega) ?_ | refine sw_op ?_ | refine sw_op_ ?_) | with_reducible refine sw_store ?_ | with_reducible (first | refine sw_nil ?_ | refine sq_then ?_ | refine sc_seq ?_ | refine sc_region ?_ | refine sw_guard_skip ?_ | refine sw_guard_skip_ ?_ | refine sw_guard_run ?_ | refine sc_cond_true ?_ | refine sc_cond_false ?_ | refine sc_ret ?_ | refine sq_then_ret ?_ | refine sc_skip ?_ | refine sc_block ?_ | refine sq_block ?_ | refine sq_block_ret ?_ | refine sc_exit ?_ | refine sq_then_exit ?_ | refine sq_block_exit ?_ | refine sq_block_past ?_ | refine sq_round_ret ?_ | refine sq_round_exit ?_) | fail)
      refine sq_round ⟨1, h1⟩ ?_ ?_ ?_
      · show n - 1 < n - 0
        omega
      · repeat' (first | exact says_nil | refine says_cons rfl ?_ | refine says_cons (by simp) ?_)
      · refine Ent.or2 (Ent.ex1 ((bN, bU), rN, rU) (Ent.hall1 ?_))
        simp only [List.cons_append, List.nil_append]
        repeat' (first | with_reducible exact Ent.refl _ | with_reducible refine Ent.take_eq ?_ ?_ | rfl | with_reducible refine Ent.trans (Ent.drop _ _) ?_)
    · obtain ⟨⟨bN, bU⟩, rN, rU⟩ := y
      simp only [List.cons_append, List.nil_append]
      repeat' (first | with_reducible (first | refine sw_op ?_ | refine sw_op_ ?_) | with_reducible (first | refine sw_nil ?_ | refine sq_then ?_ | refine sc_seq ?_ | refine sc_region ?_ | refine sw_guard_skip ?_ | refine sw_guard_skip_ ?_ | refine sw_guard_run ?_ | refine sc_cond_true ?_ | refine sc_cond_false ?_ | refine sc_ret ?_ | refine sq_then_ret ?_ | refine sc_skip ?_ | refine sc_block ?_ | refine sq_block ?_ | refine sq_block_ret ?_ | refine sc_exit ?_ | refine sq_then_exit ?_ | refine sq_block_exit ?_ | refine sq_block_past ?_ | refine sq_round_ret ?_ | refine sq_round_exit ?_) | fail)
      refine sw_buildSlice [strV (List.replicate 512 0)] (by omega) rfl fun b0 => ?_
      repeat' (first | with_reducible (first | refine sw_op ?_ | refine sw_op_ ?_) | with_reducible (first | refine sw_nil ?_ | refine sq_then ?_ | refine sc_seq ?_ | refine sc_region ?_ | refine sw_guard_skip ?_ | refine sw_guard_skip_ ?_ | refine sw_guard_run ?_ | refine sc_cond_true ?_ | refine sc_cond_false ?_ | refine sc_ret ?_ | refine sq_then_ret ?_ | refine sc_skip ?_ | refine sc_block ?_ | refine sq_block ?_ | refine sq_block_ret ?_ | refine sc_exit ?_ | refine sq_then_exit ?_ | refine sq_block_exit ?_ | refine sq_block_past ?_ | refine sq_round_ret ?_ | refine sq_round_exit ?_) | fail)
      refine sw_append (src := [strV (List.replicate 512 0)]) src_pts0 (by simp [Value.oneCell', strV]) ⟨by omega, by rw [List.length_append, cellsOf_len], rfl, by simp only [List.length_singleton]; omega, by simp only [List.length_singleton]; omega⟩ fun bN2 rN2 => ?_
      rw [cellsOf_next]
      repeat' (first | with_reducible (first | refine sw_op ?_ | refine sw_op_ ?_) | with_reducible refine sw_store ?_ | with_reducible (first | refine sw_nil ?_ | refine sq_then ?_ | refine sc_seq ?_ | refine sc_region ?_ | refine sw_guard_skip ?_ | refine sw_guard_skip_ ?_ | refine sw_guard_run ?_ | refine sc_cond_true ?_ | refine sc_cond_false ?_ | refine sc_ret ?_ | refine sq_then_ret ?_ | refine sc_skip ?_ | refine sc_block ?_ | refine sq_block ?_ | refine sq_block_ret ?_ | refine sc_exit ?_ | refine sq_then_exit ?_ | refine sq_block_exit ?_ | refine sq_block_past ?_ | refine sq_round_ret ?_ | refine sq_round_exit ?_) | fail)
      refine sw_buildSlice [strV (List.replicate 512 0)] (by omega) rfl fun b1 => ?_
      repeat' (first | with_reducible (first | refine sw_op ?_ | refine sw_op_ ?_) | with_reducible (first | refine sw_nil ?_ | refine sq_then ?_ | refine sc_seq ?_ | refine sc_region ?_ | refine sw_guard_skip ?_ | refine sw_guard_skip_ ?_ | refine sw_guard_run ?_ | refine sc_cond_true ?_ | refine sc_cond_false ?_ | refine sc_ret ?_ | refine sq_then_ret ?_ | refine sc_skip ?_ | refine sc_block ?_ | refine sq_block ?_ | refine sq_block_ret ?_ | refine sc_exit ?_ | refine sq_then_exit ?_ | refine sq_block_exit ?_ | refine sq_block_past ?_ | refine sq_round_ret ?_ | refine sq_round_exit ?_) | fail)
      refine sw_append (src := [strV (List.replicate 512 0)]) src_pts0 (by simp [Value.oneCell', strV]) ⟨by omega, by rw [List.length_append, cellsOf_len], rfl, by simp only [List.length_singleton]; omega, by simp only [List.length_singleton]; omega⟩ fun bU2 rU2 => ?_
      rw [cellsOf_next]
      repeat' (first | with_reducible (first | refine sw_in (by omega) ?_ | refine sw_op ?_ | refine sw_op_ ?_) | with_reducible refine sw_store ?_ | with_reducible (first | refine sw_nil ?_ | refine sq_then ?_ | refine sc_seq ?_ | refine sc_region ?_ | refine sw_guard_skip ?_ | refine sw_guard_skip_ ?_ | refine sw_guard_run ?_ | refine sc_cond_true ?_ | refine sc_cond_false ?_ | refine sc_ret ?_ | refine sq_then_ret ?_ | refine sc_skip ?_ | refine sc_block ?_ | refine sq_block ?_ | refine sq_block_ret ?_ | refine sc_exit ?_ | refine sq_then_exit ?_ | refine sq_block_exit ?_ | refine sq_block_past ?_ | refine sq_round_ret ?_ | refine sq_round_exit ?_) | fail)
      refine sq_round ⟨i + 1, hlt⟩ ?_ ?_ ?_
      · show n - (i + 1) < n - i
        omega
      · repeat' (first | exact says_nil | refine says_cons rfl ?_ | refine says_cons (by simp) ?_)
      · refine Ent.or2 (Ent.ex1 ((bN2, bU2), rN2, rU2) (Ent.hall1 ?_))
        simp only [List.cons_append, List.nil_append]
        repeat' (first | with_reducible exact Ent.refl _ | with_reducible refine Ent.take_eq ?_ ?_ | rfl | with_reducible refine Ent.trans (Ent.drop _ _) ?_)
  · have hin : i = n := by omega
    subst hin
    unfold RNewB
    refine sq_or p (sq_and p fun h0 => by omega) (sq_ex p fun y => sq_hall p ?_)
    obtain ⟨⟨bN, bU⟩, rN, rU⟩ := y
    simp only [List.cons_append, List.nil_append]
    refine sq_ent (Ent.dup_take (k := bD) (k' := bD + 1) (r' := RKeep (.slice none 0 0) (Dk.new i)) fun _ _ hf => absurd rfl hf) ?_
    refine sq_ret2 Tryz.results6 ?_
    refine ⟨_, ⟨p, rfl, rfl⟩, Ent.trans (B := REFl p (Dk.new i) ⟨bN, bU, bD, bD + 1, i + rN.length, i + rU.length, i, .slice none 0 0, rN, rU, []⟩ F) ?_ (REF.close ⟨Dk.new_wf h1 h2, rfl⟩)⟩
    have eL : (Dk.new i).sure.length = i := by show (List.replicate i _).length = i; rw [List.length_replicate]
    have eN : strs (fun _ => strV (List.replicate 512 0)) i rN = strs (Dk.new i).fN i rN := row_congr fun j hj => by
      unfold Dk.fN
      rw [Dk.now_sure rfl, Int.toNat_natCast]
      show _ = strV (((List.replicate i (List.replicate 512 (0 : Int)))[j]?).getD [])
      rw [List.getElem?_replicate, if_pos hj]; rfl
    have eU : strs (fun _ => strV (List.replicate 512 0)) i rU = strs (Dk.new i).fU i rU := row_congr fun j hj => by
      unfold Dk.fU
      show _ = strV (((List.replicate i (List.replicate 512 (0 : Int)))[j]?).getD [])
      rw [List.getElem?_replicate, if_pos hj]; rfl
    have eD : (Obj.cells (List.replicate i (Value.bool false)).toArray 4 (0, 0)) = bools (Dk.new i).fD i [] := by
      show _ = Obj.cells (cellsOf (fun _ => Value.bool false) i ++ []).toArray 4 (0, 0)
      rw [List.append_nil]
      unfold cellsOf
      rw [List.map_const', List.length_range]
    rw [eN, eU, eD]
    unfold REFl
    rw [eL]
    repeat' (first | with_reducible exact Ent.refl _ | with_reducible refine Ent.take_eq ?_ ?_ | rfl | with_reducible refine Ent.trans (Ent.drop _ _) ?_)
end Go.Gsl

namespace Go.Gsl
set_option linter.unusedVariables false
open Go.Proofs Go.RowKit

theorem rWrite_ok0 (p k : Nat) (s : Dk) (r : HProp) (ad : Option Addr) (c : Nat) (a : Int) (xs : List Int) (hb : s.looks a = 0) (hx : SecWf xs) (hr : Reads r ad (xs.map (Value.int .u8))) (hf : s.fuse ≠ 1) : Spec Tryz.prog 29 [.pointer (some ⟨p, 0, none⟩), .int .i64 a, .slice ad 512 c] [p, k] [REF p s, r]
    fun F v Rs' => v = .int .i64 0 ∧ Rs' = (p, REF p (s.wrote a xs)) :: (k, r) :: F :=
  (rWrite_ok p k s r ad c a xs hb hx hr).mono fun F v Rs' h => by
    rcases h with ⟨_, h⟩ | ⟨h, _⟩
    · exact h
    · exact absurd h hf
theorem rWrite_ok1 (p k : Nat) (s : Dk) (r : HProp) (ad : Option Addr) (c : Nat) (a : Int) (xs : List Int) (hb : s.looks a = 0) (hx : SecWf xs) (hr : Reads r ad (xs.map (Value.int .u8))) (hf : s.fuse = 1) : Spec Tryz.prog 29 [.pointer (some ⟨p, 0, none⟩), .int .i64 a, .slice ad 512 c] [p, k] [REF p s, r]
    fun F v Rs' => ∃ ks, KeysD (s.wrote a xs).dirty ks ∧ v = .int .i64 6 ∧ Rs' = (p, REF p ((s.wrote a xs).gone ks s.keep)) :: (k, r) :: F :=
  (rWrite_ok p k s r ad c a xs hb hx hr).mono fun F v Rs' h => by
    rcases h with ⟨h, _⟩ | ⟨_, h1, ks, h2, h3⟩
    · exact absurd hf h
    · exact ⟨ks, h2, h1, h3⟩
theorem rBarrier_ok0 (p : Nat) (s : Dk) (hb : s.looks 0 = 0) (hf : s.fuse ≠ 1) : Spec Tryz.prog 71 [.pointer (some ⟨p, 0, none⟩)] [p] [REF p s]
    fun F v Rs' => v = .int .i64 0 ∧ Rs' = (p, REF p s.barred) :: F :=
  (rBarrier_ok p s hb).mono fun F v Rs' h => by
    rcases h with ⟨_, h⟩ | ⟨h, _⟩
    · exact h
    · exact absurd h hf
theorem rBarrier_ok1 (p : Nat) (s : Dk) (hb : s.looks 0 = 0) (hf : s.fuse = 1) : Spec Tryz.prog 71 [.pointer (some ⟨p, 0, none⟩)] [p] [REF p s]
    fun F v Rs' => ∃ ks, KeysD s.dirty ks ∧ v = .int .i64 6 ∧ Rs' = (p, REF p (s.met.gone ks s.keep)) :: F :=
  (rBarrier_ok p s hb).mono fun F v Rs' h => by
    rcases h with ⟨h, _⟩ | ⟨_, h1, ks, h2, h3⟩
    · exact absurd hf h
    · exact ⟨ks, h2, h1, h3⟩

/-- away, nothing is dirty; the fuse's bools are few -/
structure Dk.Fit (s : Dk) : Prop where
  clean : s.down = true → s.dirty = fun _ => none
  few : s.keep.length ≤ 140737488355328
theorem Dk.Fit.wrote {s : Dk} (h : s.Fit) {a : Int} (hl : s.looks a = 0) {xs : List Int} : (s.wrote a xs).Fit where
  clean hd := by
    have h1 : s.down = true := hd
    rw [(Dk.looks_zero hl).1] at h1; cases h1
  few := h.few
theorem Dk.Fit.gone {s : Dk} {ks : List Int} {bs : List Bool} : (s.gone ks bs).Fit := ⟨fun _ => rfl, by show ([] : List Bool).length ≤ _; simp⟩
theorem Dk.Fit.barred {s : Dk} (h : s.Fit) : s.barred.Fit := ⟨fun _ => rfl, h.few⟩
theorem Dk.Fit.fused {s : Dk} (h : s.Fit) {n : Int} {bs : List Bool} (hb : bs.length ≤ 140737488355328) : (s.fused n bs).Fit := ⟨h.clean, hb⟩
theorem Dk.Fit.up {s : Dk} (h : s.Fit) : s.up.Fit where
  clean hd := by cases hd
  few := h.few


end Go.Gsl
