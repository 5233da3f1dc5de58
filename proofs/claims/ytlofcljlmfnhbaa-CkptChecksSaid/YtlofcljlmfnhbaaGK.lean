/- Ints and their bytes, forth and back. -/
import Derived.Test.YtlofcljlmfnhbaaGC
import Derived.Test.YtlofcljlmfnhbaaGD
import Derived.Test.YtlofcljlmfnhbaaGA
import Derived.SizedLaws
namespace Go.Gsl
set_option linter.unusedVariables false
open Go.Proofs

theorem pow_succ256 (k : Nat) : (256 : Int) ^ (k + 1) = 256 ^ k * 256 := Int.pow_succ 256 k
theorem beB_succ (k : Nat) (v : Int) : beB (k + 1) v = beB k (v / 256) ++ [v % 256] := by
  unfold beB
  rw [List.range_succ, List.map_append]
  congr 1
  · apply List.map_congr_left
    intro i hi
    have hi := List.mem_range.1 hi
    rw [show k + 1 - 1 - i = (k - 1 - i) + 1 by omega, pow_succ256, Int.mul_comm, Int.ediv_ediv_of_nonneg (by omega)]
  · simp
theorem ofBE_beB : ∀ (k : Nat) (v : Int), 0 ≤ v → v < 256 ^ k → ofBE (beB k v) = v
  | 0, v, h0, h1 => by
    simp at h1
    rw [show v = 0 by omega]
    rfl
  | k + 1, v, h0, h1 => by
    rw [beB_succ, ofBE_snoc, ofBE_beB k (v / 256) (by omega) (by rw [pow_succ256] at h1; omega)]
    omega
theorem bo_lt {n : Int} (h : 0 ≤ n ∧ n ≤ 9223372036854775807) : n < 256 ^ bo n := by
  unfold bo
  repeat' split
  all_goals (simp; omega)

theorem takeK_of {k : Nat} {g : Int → Int} {neg : Bool} {r : List Int} {v : Int} (hk : k ≤ r.length) (hv : ofBE ((r.take k).map g) = v) (h1 : v ≤ 9223372036854775807) (h2 : width (if neg then -v - 1 else v) = 1 + k) : takeK k g neg r = ((if neg then -v - 1 else v : Int), (1 + (k : Int), (0 : Int))) := by
  unfold takeK
  rw [if_neg (by omega), hv, if_neg (by simp; omega)]

/-- an int, put and taken -/
theorem take_int {n : Int} (hn : I64 n) (rest : List Int) : takeInt (intB n ++ rest) = (n, ((width n : Nat) : Int), (0 : Int)) := by
  unfold I64 at hn
  have hw := width_in n
  unfold intB
  split
  · rename_i h
    have := width_one h
    rw [List.singleton_append, takeInt_cons, if_neg (by omega), if_neg (by omega), if_neg (by omega), h]
    simp
  · rename_i h
    split
    · rename_i hneg
      have hk : width n = 1 + bo (-n - 1) := by
        unfold width at h ⊢
        rw [if_neg (by omega)] at h ⊢
        by_cases h9 : n < -100
        · rw [if_pos h9]
        · rw [if_neg h9] at h; exact absurd rfl h
      have hb := bo_in (-n - 1)
      have hlt := bo_lt (n := -n - 1) (by omega)
      rw [hk, List.cons_append, takeInt_cons, if_neg (by omega), if_neg (by omega), if_pos (by omega)]
      rw [show (8 - (9 - ((1 + bo (-n - 1) : Nat) : Int))).toNat = bo (-n - 1) by omega, show 1 + bo (-n - 1) - 1 = bo (-n - 1) by omega]
      generalize bo (-n - 1) = k at *
      have hl : ((beB k (-n - 1)).map (255 - ·)).length = k := by rw [List.length_map, beB_len]
      rw [takeK_of (v := -n - 1) (by rw [List.length_append]; omega) ?_ (by omega) (by rw [if_pos rfl, show -(-n - 1) - 1 = n by omega]; exact hk)]
      · rw [if_pos rfl, show -(-n - 1) - 1 = n by omega]
        simp
      · rw [List.take_left' hl, List.map_map]
        rw [show (List.map ((fun a => 255 - a) ∘ fun x => 255 - x) (beB k (-n - 1))) = beB k (-n - 1) from ?_]
        · exact ofBE_beB k _ (by omega) hlt
        · conv => rhs; rw [← List.map_id (beB k (-n - 1))]
          apply List.map_congr_left
          intro x _
          show 255 - (255 - x) = x
          omega
    · rename_i hneg
      have hk : width n = 1 + bo n := by
        unfold width at h ⊢
        by_cases h9 : 100 < n
        · rw [if_pos h9]
        · rw [if_neg h9, if_neg (by omega)] at h; exact absurd rfl h
      have hb := bo_in n
      have hlt := bo_lt (n := n) (by omega)
      rw [hk, List.cons_append, takeInt_cons, if_neg (by omega), if_pos (by omega)]
      rw [show ((207 + ((1 + bo n : Nat) : Int)) - 208).toNat = bo n by omega, show 1 + bo n - 1 = bo n by omega]
      generalize bo n = k at *
      have hl : (beB k n).length = k := beB_len k n
      rw [takeK_of (v := n) (by rw [List.length_append]; omega) ?_ (by omega) (by rw [if_neg (by simp)]; exact hk)]
      · rw [if_neg (by simp)]
        simp
      · rw [List.take_left' hl, List.map_id']
        exact ofBE_beB k _ (by omega) hlt

theorem ofBE_be4 {s : Int} (h : 0 ≤ s ∧ s < 4294967296) : ofBE (be4 s) = s := by
  unfold be4 ofBE
  simp only [List.foldl]
  omega
end Go.Gsl

namespace Go.Gsl
set_option linter.unusedVariables false
open Go.Proofs
/-- a disk that can be read: what its sectors are, what is wrong -/
def RdSpec (v : Value) (k : Nat) (r : HProp) (f : Int → List Int × Int) : Prop := ∀ a : Int, Spec Try.prog 30 [v, .int .i64 a] [k] [r] fun F w Rs' => ((f a).2 ≠ 0 ∧ w = .tuple #[.slice none 0 0, .int .i64 (f a).2] ∧ Rs' = (k, r) :: F) ∨
  ((f a).2 = 0 ∧ Byt (f a).1 ∧ (f a).1.length = 512 ∧ ∃ b, w = .tuple #[.slice (some ⟨b, 0, none⟩) (f a).1.length (f a).1.length, .int .i64 0] ∧ Rs' = (b, pts b (.cells ((f a).1.map (Value.int .u8)).toArray 5 (0, 0))) :: (k, r) :: F)

/-- a disk's sectors -/
theorem rd_disk_wf (p : Nat) (s : Dk) (hwf : s.Wf) : RdSpec (.pointer (some ⟨p, 0, none⟩)) p (DISK p s) fun a => (s.now a, s.looks a) := by
  intro a
  rcases Classical.em (s.looks a = 0) with h | h
  · refine (dRead_ok p s a h).mono fun F v Rs' => ?_
    rintro ⟨b, rfl, rfl⟩
    have hin : 0 ≤ a ∧ a < s.sure.length := by
      unfold Dk.looks at h
      split at h
      · cases h
      · split at h
        · cases h
        · omega
    have hs := Dk.now_wf hwf hin.1 hin.2
    refine .inr ⟨h, hs.byte, hs.len, b, ?_, rfl⟩
    simp only [hs.len]
  · refine (dRead_bad p s a h).mono fun F v Rs' => ?_
    rintro ⟨rfl, rfl⟩
    exact .inl ⟨h, rfl, rfl⟩
theorem rd_disk (p : Nat) (s : Dk) : RdSpec (.pointer (some ⟨p, 0, none⟩)) p (DISK p s) fun a => (s.now a, s.looks a) := by
  intro a w0 F w hw
  obtain ⟨x, hx, _⟩ := DISK.openS hw
  exact rd_disk_wf p s hx.wf a w0 F w hw

end Go.Gsl

namespace Go.Gsl
set_option linter.unusedVariables false
open Go.Proofs Go.RowKit Go.ChangeShapes Go.WideShapes

/-- one operation of a script -/
structure Op7 where
  d : Int
  at' : Int
  a : Int
  b : Int
  n : Int
  kv : Value
  keep : List Bool
  ov : Value
  odd : List Int

instance : Inhabited Op7 := ⟨⟨0, 0, 0, 0, 0, .slice none 0 0, [], .slice none 0 0, []⟩⟩
abbrev op7v (o : Op7) : List Value := [.int .i64 o.d, .int .i64 o.at', .int .u8 o.a, .int .u8 o.b, .int .i64 o.n, o.kv, o.ov]

/-- a slice that came in: its elements can be read -/
def RdW (W : World) (v : Value) (vs : List Value) : Prop := ∃ a c, v = .slice a vs.length c ∧ vs.length ≤ maxLen ∧ (0 < vs.length → ∃ b o, a = some ⟨b, o, none⟩) ∧ ∀ j u, vs[j]? = some u → ∃ ad, a = some ad ∧ W.cell? (ad.add j) = some u

theorem RdW.reads {W : World} {a : Option Addr} {m c : Nat} {vs : List Value} (h : RdW W (.slice a m c) vs) : m = vs.length ∧ (0 < vs.length → ∃ b o, a = some ⟨b, o, none⟩) ∧ Reads (ro W) a vs := by
  obtain ⟨a', c', e, _, h1, h2⟩ := h
  cases e
  exact ⟨rfl, h1, reads_ro h2⟩
theorem RdW.bools {W : World} {v : Value} {bs : List Bool} (h : RdW W v (bs.map Value.bool)) : RdBools (ro W) v bs := by
  obtain ⟨a, c, rfl, _, h1, h2⟩ := h
  rw [List.length_map] at h1 ⊢
  exact ⟨a, c, rfl, h1, reads_ro h2⟩

theorem RdW.one {W : World} {v : Value} {vs : List Value} (h : RdW W v vs) : One v := by
  obtain ⟨a, c, rfl, _⟩ := h
  exact ⟨rfl⟩

structure Op7.Wf (W : World) (o : Op7) : Prop where
  d : -9223372036854775808 ≤ o.d ∧ o.d ≤ 9223372036854775807
  at' : -9223372036854775808 ≤ o.at' ∧ o.at' ≤ 9223372036854775807
  a : 0 ≤ o.a ∧ o.a ≤ 255
  b : 0 ≤ o.b ∧ o.b ≤ 255
  n : -9223372036854775808 ≤ o.n ∧ o.n ≤ 9223372036854775807
  keep : RdW W o.kv (o.keep.map Value.bool)
  odd : RdW W o.ov (o.odd.map (Value.int .u8))
  oddb : ∀ x ∈ o.odd, 0 ≤ x ∧ x ≤ 255

def Ops7 (W : World) (a : Option Addr) (os : List Op7) : Prop :=
  ∀ k (h : k < os.length), os[k].Wf W ∧ ∃ b off, a = some ⟨b, off, none⟩ ∧ ∀ j v, (op7v os[k])[j]? = some v → W.cell? ⟨b, off + k * 7 + j, none⟩ = some v

theorem wf_i64 {n : Int} (h : (Lit.int .i64 n).wf = true) : -9223372036854775808 ≤ n ∧ n ≤ 9223372036854775807 := by
  simp only [Lit.wf, Bool.and_eq_true, decide_eq_true_eq] at h
  rw [show IntKind.i64.min = -9223372036854775808 from rfl, show IntKind.i64.max = 9223372036854775807 from rfl] at h
  exact h
theorem wf_u8 {n : Int} (h : (Lit.int .u8 n).wf = true) : 0 ≤ n ∧ n ≤ 255 := by
  simp only [Lit.wf, Bool.and_eq_true, decide_eq_true_eq] at h
  rw [show IntKind.u8.min = 0 from rfl, show IntKind.u8.max = 255 from rfl] at h
  exact h

section
variable {H : Type} {enc : TypeId × Value → H} {W : World} {base : Nat} {fuel : Nat}

/-- a slice among the cells of a struct, of elements of one cell -/
theorem cell_slice {P : Program} {t e : TypeId} {c : Value} {y : DataW H × List MemPlace} {α : Type} [Inhabited α] (E : α → Value) (pr : α → Prop) (hu : P.underlying t = some (.slice e)) (hc : P.cellsOf e = 1)
    (he : ∀ fuel c y, DataW.trod enc P W 0 (fun _ => true) true fuel e [c] = some y → ∃ x, c = E x ∧ pr x) (h : DataW.trod enc P W 0 (fun _ => true) true fuel t [c] = some y) : ∃ xs : List α, (∀ x ∈ xs, pr x) ∧ RdW W c (xs.map E) ∧ (xs = [] ∨ ∃ es sp, y.1 = .slice es sp ∧ es.length = xs.length) := by
  rcases Deep.open_slice hu h with ⟨hcs, _⟩ | ⟨a, len, cap, m, n, D, Pl, hcs, _, hl, hm, hme, hx, hel⟩
  · obtain rfl : c = .slice none 0 0 := by simpa using hcs
    exact ⟨[], by simp, ⟨none, 0, rfl, Nat.zero_le _, fun h => by simp at h, by simp⟩, .inl rfl⟩
  · obtain rfl : c = .slice (some a) len cap := by simpa using hcs
    simp only [if_true] at hme
    rw [hc] at hel
    have hch : ∀ i, i < len → ∃ x : α, pr x ∧ CellsAt W (a.add i) [E x] := by
      intro i hi
      obtain ⟨es, hes, hd⟩ := hel i (by omega)
      obtain ⟨h1, h2⟩ := cells_at hes
      match es, h1 with
      | [e0], _ =>
        obtain ⟨x, rfl, hp⟩ := he _ _ _ hd
        exact ⟨x, hp, by simpa using h2⟩
    obtain ⟨g, hg⟩ := Deep.choose_lt hch
    refine ⟨(List.range len).map g, fun x hx => ?_, ⟨some a, cap, by simp, by simp; omega, fun h0 => ?_, fun j u hj => ?_⟩, .inr ⟨_, _, by rw [hx], by simp⟩⟩
    · obtain ⟨i, hi, rfl⟩ := List.mem_map.1 hx
      exact (hg i (List.mem_range.1 hi)).1
    · have h1 := (hg 0 (by simpa using h0)).2
      rw [show a.add 0 = a by simp [Addr.add]] at h1
      exact ⟨a.block, a.off, by rw [← cells_plain (m := 0) rfl h1]⟩
    · have hlt : j < len := by have := (List.getElem?_eq_some_iff.1 hj).1; simpa using this
      simp only [List.map_map, List.getElem?_map, List.getElem?_range hlt, Option.map_some, Function.comp, Option.some.injEq] at hj
      subst hj
      have h1 := (hg j hlt).2 0 (E (g j)) rfl
      refine ⟨a, rfl, ?_⟩
      have h0 := (hg 0 (by omega)).2
      rw [show a.add 0 = a by simp [Addr.add]] at h0
      have ha := cells_plain (m := 0) rfl h0
      rw [ha, add_plain] at h1 ⊢
      rw [add_plain] at h1
      simpa using h1

theorem l2cU8 : Try.prog.cellsOf 5 = 1 := by kernel_rfl
theorem l2cInt : Try.prog.cellsOf 3 = 1 := by kernel_rfl
theorem l2cBool : Try.prog.cellsOf 4 = 1 := by kernel_rfl
theorem l2cBools : Try.prog.cellsOf 61 = 1 := by kernel_rfl
theorem l2cBytes : Try.prog.cellsOf 67 = 1 := by kernel_rfl
set_option maxRecDepth 100000 in
theorem read_bools {v : Value} {d : DataW H} {p : List MemPlace} (ho : Value.okWide Try.prog W .any base 61 v) (h : DataW.Trod enc Try.prog W 0 (fun _ => true) true 61 v d p) :
    ∃ bs : List Bool, RdW W v (bs.map Value.bool) := by
  obtain ⟨a0, len, cap, rfl⟩ := okWide_slice Try.underlying61 ho
  obtain ⟨fuel, hf⟩ := h
  obtain ⟨bs, _, h, _⟩ := cell_slice (α := Bool) Value.bool (fun _ => True) Try.underlying61 l2cBool (fun fuel c y h => by obtain ⟨b, hb⟩ := cell_bool Try.underlying4 h; exact ⟨b, hb, trivial⟩) (by simpa [Value.cells] using hf)
  exact ⟨bs, h⟩
theorem l2bBool : Try.prog.bytesOf 4 = 1 := by kernel_rfl
set_option maxRecDepth 100000 in
theorem read_bools_sz {ts : List TypeId} {ds : List (DataW H)} {j : Nat} {v : Value} {d : DataW H} {p : List MemPlace} (hz : (DataW.weightsEach Try.prog ts ds).all (· ≤ reachBytes) = true) (ht : ts[j]? = some 61) (hd : ds[j]? = some d)
    (ho : Value.okWide Try.prog W .any base 61 v) (h : DataW.Trod enc Try.prog W 0 (fun _ => true) true 61 v d p) : ∃ bs : List Bool, RdW W v (bs.map Value.bool) ∧ bs.length ≤ 140737488355328 := by
  obtain ⟨a0, len, cap, rfl⟩ := okWide_slice Try.underlying61 ho
  obtain ⟨fuel, hf⟩ := h
  obtain ⟨bs, _, h, hs⟩ := cell_slice (α := Bool) Value.bool (fun _ => True) Try.underlying61 l2cBool (fun fuel c y h => by obtain ⟨b, hb⟩ := cell_bool Try.underlying4 h; exact ⟨b, hb, trivial⟩) (by simpa [Value.cells] using hf)
  refine ⟨bs, h, ?_⟩
  rcases hs with rfl | ⟨es, sp, he, hl⟩
  · simp
  · simp only at he
    subst he
    have h1 := sized_slice hz ht hd Try.underlying61
    rw [l2bBool] at h1
    have h2 := reachBytes_lt
    omega
end
end Go.Gsl

namespace Go.Gsl
set_option linter.unusedVariables false
open Go.Proofs Go.RowKit Go.ChangeShapes Go.WideShapes
set_option maxRecDepth 100000 in
theorem read_bytesx {H : Type} {enc : TypeId × Value → H} {W : World} {base : Nat} {v : Value} {d : DataW H} {p : List MemPlace} (ho : Value.okWide Try.prog W .any base 67 v) (h : DataW.Trod enc Try.prog W 0 (fun _ => true) true 67 v d p) : ∃ bs, RdBx (ro W) v bs ∧ Byt bs := by
  rcases read_slice Try.underlying67 ho h with rfl | ⟨a, len, cap, fuel, rfl, hl, hm, hel⟩
  · exact ⟨[], ⟨none, 0, rfl, Nat.le_refl _, fun h => by simp at h, reads_nil _ _⟩, fun x hx => by simp at hx⟩
  · rw [l2cU8] at hel
    have hch : ∀ i, i < len → ∃ x : Int, (0 ≤ x ∧ x ≤ 255) ∧ CellsAt W (a.add i) [.int .u8 x] := by
      intro i hi
      obtain ⟨es, y, h1, h2, hd⟩ := hel i hi
      match es, h1 with
      | [e0], _ =>
        obtain ⟨x, rfl, hp⟩ := cell_int Try.underlying5 hd
        exact ⟨x, wf_u8 hp, by simpa using h2⟩
    obtain ⟨g, hg⟩ := Deep.choose_lt hch
    have hlen : ((List.range len).map g).length = len := by simp
    have hpl : 0 < len → a = ⟨a.block, a.off, none⟩ := fun h0 => by
      have h1 := (hg 0 h0).2
      rw [show a.add 0 = a by simp [Addr.add]] at h1
      exact cells_plain (m := 0) rfl h1
    refine ⟨(List.range len).map g, ⟨some a, cap, by rw [hlen], by rw [hlen]; exact hl, fun h0 => ⟨a.block, a.off, by rw [← hpl (by rw [hlen] at h0; exact h0)]⟩, reads_ro fun j u hj => ?_⟩, fun x hx => ?_⟩
    · have hlt : j < len := by have := (List.getElem?_eq_some_iff.1 hj).1; simpa using this
      simp only [List.map_map, List.getElem?_map, List.getElem?_range hlt, Option.map_some, Function.comp, Option.some.injEq] at hj
      subst hj
      have h1 := (hg j hlt).2 0 (.int .u8 (g j)) rfl
      have ha := hpl (by omega)
      refine ⟨a, rfl, ?_⟩
      rw [ha, add_plain] at h1 ⊢
      rw [add_plain] at h1
      simpa using h1
    · obtain ⟨i, hi, rfl⟩ := List.mem_map.1 hx
      exact (hg i (List.mem_range.1 hi)).1
end Go.Gsl
