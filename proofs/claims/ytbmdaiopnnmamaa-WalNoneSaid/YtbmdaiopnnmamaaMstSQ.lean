/- MasterSector. -/
import Derived.Test.YtbmdaiopnnmamaaGQ
import Derived.Test.YtbmdaiopnnmamaaGM
import Derived.Test.YtbmdaiopnnmamaaDiskRQ
namespace Go.Gsl
set_option linter.unusedVariables false
open Go.Proofs Go.RowKit Go.ChangeShapes Go.WideShapes

/-- bytes that came in -/
def RdBx (r : HProp) (v : Value) (bs : List Int) : Prop := ∃ a c, v = .slice a bs.length c ∧ bs.length ≤ c ∧ (0 < bs.length → ∃ b o, a = some ⟨b, o, none⟩) ∧ Reads r a (bs.map (Value.int .u8))
theorem RdB.bx {r : HProp} {v : Value} {bs : List Int} (h : RdB r v bs) : RdBx r v bs := by
  obtain ⟨a, c, h1, h2, h3, h4⟩ := h.gen
  exact ⟨a, c, h1, h3, h2, h4⟩
theorem RdBx.one {r : HProp} {v : Value} {bs : List Int} (h : RdBx r v bs) : One v := by
  obtain ⟨a, c, rfl, _⟩ := h
  exact ⟨rfl⟩

theorem mParse_len (k : Nat) (r : HProp) (a : Option Addr) (m c : Nat) (hm : m ≠ 512) : Spec Try.prog 20 [.slice a m c] [k] [r] fun F w Rs' => w = .tuple #[.agg Ms.zero.cs.toArray, .int .i64 200] ∧ Rs' = (k, r) :: F := by
  refine spec_of Try.func20 rfl Try.ntmps20 rfl ?_
  intro w0 F
  repeat' (first | with_reducible (first | refine go1 ?_ | refine sct ?_ | refine scf ?_ | refine sgr ?_) | fail)
  refine sw_alloc fun b0 => ?_
  repeat' (first | with_reducible (first | refine go1 ?_ | refine sct ?_ | refine scf ?_ | refine sgr ?_) | (with_reducible refine sc_cond (fun h => ?_) (fun h => ?_)) <;> (try (exfalso; first | contradiction | omega | exact h Iff.rfl)) | fail)
  refine sw_build Ms.zero.cs (by kernel_rfl) ?_
  refine sw_store_agg ?_
  repeat' (first | with_reducible (first | refine go1 ?_ | refine sct ?_ | refine scf ?_ | refine sgr ?_) | fail)
  refine sq_resAT Try.results20 (by first | exact .inl rfl | exact .inr rfl) rfl ?_
  refine ⟨_, ⟨rfl, rfl⟩, Ent.drop _ _⟩
theorem mParse_bx (k : Nat) (r : HProp) (v : Value) (bs : List Int) (hv : RdBx r v bs) (hb : Byt bs) : Spec Try.prog 20 [v] [k] [r] fun F w Rs' => w = .tuple #[.agg (parseM bs).1.cs.toArray, .int .i64 (parseM bs).2] ∧ Rs' = (k, r) :: F := by
  obtain ⟨a, c, rfl, hc, ha, hr⟩ := hv
  rcases Classical.em (bs.length = 512) with h | h
  · obtain ⟨b, o, rfl⟩ := ha (by omega)
    exact mParse_ok k r _ bs (.row b o c bs hc hr) hb
  · have : parseM bs = (Ms.zero, 200) := by unfold parseM; rw [if_pos h]
    rw [this]
    exact mParse_len k r a bs.length c h
theorem q20Parse_len (k : Nat) (r : HProp) (a : Option Addr) (m c : Nat) (hm : m ≠ 512) : Spec Try.prog 30 [.slice a m c] [k] [r] fun F w Rs' => w = .tuple #[.agg Ms.zero.cs.toArray, .int .i64 200] ∧ Rs' = (k, r) :: F := by
  refine spec_of Try.func30 rfl Try.ntmps30 rfl ?_
  intro w0 F
  repeat' (first | with_reducible (first | refine go1 ?_ | refine sct ?_ | refine scf ?_ | refine sgr ?_) | fail)
  refine sw_alloc fun b0 => ?_
  repeat' (first | with_reducible (first | refine go1 ?_ | refine sct ?_ | refine scf ?_ | refine sgr ?_) | (with_reducible refine sc_cond (fun h => ?_) (fun h => ?_)) <;> (try (exfalso; first | contradiction | omega | exact h Iff.rfl)) | fail)
  refine sw_build Ms.zero.cs (by kernel_rfl) ?_
  refine sw_store_agg ?_
  repeat' (first | with_reducible (first | refine go1 ?_ | refine sct ?_ | refine scf ?_ | refine sgr ?_) | fail)
  refine sq_resAT Try.results30 (by first | exact .inl rfl | exact .inr rfl) rfl ?_
  refine ⟨_, ⟨rfl, rfl⟩, Ent.drop _ _⟩
theorem q20Parse_bx (k : Nat) (r : HProp) (v : Value) (bs : List Int) (hv : RdBx r v bs) (hb : Byt bs) : Spec Try.prog 30 [v] [k] [r] fun F w Rs' => w = .tuple #[.agg (parseM bs).1.cs.toArray, .int .i64 (parseM bs).2] ∧ Rs' = (k, r) :: F := by
  obtain ⟨a, c, rfl, hc, ha, hr⟩ := hv
  rcases Classical.em (bs.length = 512) with h | h
  · obtain ⟨b, o, rfl⟩ := ha (by omega)
    exact q20Parse_ok k r _ bs (.row b o c bs hc hr) hb
  · have : parseM bs = (Ms.zero, 200) := by unfold parseM; rw [if_pos h]
    rw [this]
    exact q20Parse_len k r a bs.length c h

theorem bEqual_bx (k1 k2 : Nat) (r1 r2 : HProp) (x y : Value) (xs : List Int) (h1 : RdBx r1 x xs) (h2 : RdBx r2 y xs) (hb : Byt xs) :
    Spec Try.prog 15 [x, y] [k1, k2] [r1, r2] fun F v Rs' => v = .bool true ∧ Rs' = (k1, r1) :: (k2, r2) :: F := by
  obtain ⟨a, c, rfl, _, _, hr⟩ := h1
  obtain ⟨a', c', rfl, _, _, hr'⟩ := h2
  exact bEqual_same k1 k2 r1 r2 a a' _ c _ c' xs hr hr' rfl rfl hb


set_option maxHeartbeats 2000000 in
theorem l20Sector_ok (W : World) (m : Ms) (hm : m.In) (v : Value) (bs : List Int) (hv : RdBx (ro W) v bs) (hb : Byt bs) :
    Spec Try.prog 7 [.agg m.cs.toArray, v] [0] [ro W] fun F w Rs' => w = .bool true ∧ ∃ G, Rs' = (0, ro W) :: G := by
  haveI := hv.one
  refine spec_of Try.func7 rfl Try.ntmps7 rfl ?_
  intro w0 F
  repeat' (first | with_reducible (first | refine go1 ?_ | refine sct ?_ | refine scf ?_ | refine sgr ?_) | fail)
  refine sw_box fun b0 => ?_
  repeat' (first | with_reducible (first | refine go1 ?_ | refine sct ?_ | refine scf ?_ | refine sgr ?_) | fail)
  refine sw_call (mSector_ok 0 (ro W) m hm) ?_
  rintro _ _ (⟨hc, rfl, rfl⟩ | ⟨hc, b1, rfl, rfl⟩)
  · repeat' (first | with_reducible (first | refine go1 ?_ | refine sct ?_ | refine scf ?_ | refine sgr ?_) | fail)
    refine sw_call (q20Sector_ok 0 (ro W) m hm) ?_
    rintro _ _ (⟨_, rfl, rfl⟩ | ⟨hc2, _⟩)
    · -- 0 b0: the keys; (RdB.nil (r := ro W)).bx (RdB.nil (r := pts b0 (.cells m.cs.toArray 34 (0, 0)))).bx: that they can be read; []: the bytes; (fun x hx => by simp at hx): their range
      haveI := ((RdB.nil (r := ro W)).bx).one
      haveI := ((RdB.nil (r := pts b0 (.cells m.cs.toArray 34 (0, 0)))).bx).one
      have hbr := fun x : Ms => (Ms.beq_iff x x).2 rfl
      have hb1 := hbr (parseM bs).1
      have hb2 := hbr (parseM []).1
      repeat' (first | with_reducible (first | refine go1 ?_ | refine sct ?_ | refine scf ?_ | refine sgr ?_) | with_reducible refine sw_guard_skip_u ?_ | ((with_reducible refine sw_call l20begun_ok ?_); rintro _ _ ⟨rfl, rfl⟩) | (with_reducible refine sw_guard_split (fun h => ?_) (fun h => ?_)) <;> (try (exfalso; first | contradiction | omega | exact h Iff.rfl)) | (with_reducible refine sc_cond (fun h => ?_) (fun h => ?_)) <;> (try (exfalso; first | contradiction | omega | exact h Iff.rfl)) | (with_reducible refine sw_pick (fun h => ?_) (fun h => ?_)) <;> (try (exfalso; first | contradiction | omega | exact h Iff.rfl)) | fail)
      refine sw_call (bEqual_bx 0 b0 _ _ _ _ [] (RdB.nil (r := ro W)).bx (RdB.nil (r := pts b0 (.cells m.cs.toArray 34 (0, 0)))).bx (fun x hx => by simp at hx)) ?_
      rintro _ _ ⟨rfl, rfl⟩
      repeat' (first | with_reducible (first | refine go1 ?_ | refine sct ?_ | refine scf ?_ | refine sgr ?_) | with_reducible refine sw_guard_skip_u ?_ | (with_reducible refine sw_guard_split (fun h => ?_) (fun h => ?_)) <;> (try (exfalso; first | contradiction | omega | exact h Iff.rfl)) | (with_reducible refine sc_cond (fun h => ?_) (fun h => ?_)) <;> (try (exfalso; first | contradiction | omega | exact h Iff.rfl)) | (with_reducible refine sw_pick (fun h => ?_) (fun h => ?_)) <;> (try (exfalso; first | contradiction | omega | exact h Iff.rfl)) | fail)
      refine sw_call (mParse_bx 0 _ _ bs hv hb) ?_
      rintro _ _ ⟨rfl, rfl⟩
      repeat' (first | with_reducible (first | refine go1 ?_ | refine sct ?_ | refine scf ?_ | refine sgr ?_) | fail)
      refine sw_alloc fun b9 => ?_
      refine sw_store_agg ?_
      repeat' (first | with_reducible (first | refine go1 ?_ | refine sct ?_ | refine scf ?_ | refine sgr ?_) | fail)
      refine sw_call (q20Parse_bx 0 _ _ bs hv hb) ?_
      rintro _ _ ⟨rfl, rfl⟩
      repeat' (first | with_reducible (first | refine go1 ?_ | refine sct ?_ | refine scf ?_ | refine sgr ?_) | fail)
      refine sw_alloc fun b10 => ?_
      refine sw_store_agg ?_
      repeat' (first | with_reducible (first | refine go1 ?_ | refine sct ?_ | refine scf ?_ | refine sgr ?_) | with_reducible refine sw_guard_skip_u ?_ | (with_reducible refine sw_guard_split (fun h => ?_) (fun h => ?_)) <;> (try (exfalso; first | contradiction | omega | exact h Iff.rfl)) | (with_reducible refine sc_cond (fun h => ?_) (fun h => ?_)) <;> (try (exfalso; first | contradiction | omega | exact h Iff.rfl)) | (with_reducible refine sw_pick (fun h => ?_) (fun h => ?_)) <;> (try (exfalso; first | contradiction | omega | exact h Iff.rfl)) | fail)
      refine sw_call (mParse_bx 0 _ _ [] (RdB.nil (r := ro W)).bx (fun x hx => by simp at hx)) ?_
      rintro _ _ ⟨rfl, rfl⟩
      repeat' (first | with_reducible (first | refine go1 ?_ | refine sct ?_ | refine scf ?_ | refine sgr ?_) | fail)
      refine sw_store_agg ?_
      repeat' (first | with_reducible (first | refine go1 ?_ | refine sct ?_ | refine scf ?_ | refine sgr ?_) | fail)
      refine sw_call (q20Parse_bx b0 _ _ [] (RdB.nil (r := pts b0 (.cells m.cs.toArray 34 (0, 0)))).bx (fun x hx => by simp at hx)) ?_
      rintro _ _ ⟨rfl, rfl⟩
      repeat' (first | with_reducible (first | refine go1 ?_ | refine sct ?_ | refine scf ?_ | refine sgr ?_) | fail)
      refine sw_store_agg ?_
      repeat' (first | with_reducible (first | refine go1 ?_ | refine sct ?_ | refine scf ?_ | refine sgr ?_) | with_reducible refine sw_guard_skip_u ?_ | (with_reducible refine sw_guard_split (fun h => ?_) (fun h => ?_)) <;> (try (exfalso; first | contradiction | omega | exact h Iff.rfl)) | (with_reducible refine sc_cond (fun h => ?_) (fun h => ?_)) <;> (try (exfalso; first | contradiction | omega | exact h Iff.rfl)) | (with_reducible refine sw_pick (fun h => ?_) (fun h => ?_)) <;> (try (exfalso; first | contradiction | omega | exact h Iff.rfl)) | fail)
      refine sq_ret1 Try.results7 ?_
      refine ⟨_, ⟨by simp, F, rfl⟩, ?_⟩
      repeat' (first | with_reducible exact Ent.refl _ | with_reducible refine Ent.take_eq ?_ ?_ | rfl | with_reducible refine Ent.trans (Ent.drop _ _) ?_)
    · exact absurd hc2 hc
  · repeat' (first | with_reducible (first | refine go1 ?_ | refine sct ?_ | refine scf ?_ | refine sgr ?_) | fail)
    refine sw_call (q20Sector_ok 0 (ro W) m hm) ?_
    rintro _ _ (⟨hc2, _⟩ | ⟨_, b2, t2, rfl, rfl⟩)
    · exact absurd hc hc2
    · rw [← m.sec_len]
      -- b1 b2: the keys; (RdB.own0 (b := b1) (bs := m.sec) (t := 108) (fr := (0, 0))).bx (RdB.own (b := b2) (bs := m.sec) (r := t2) (t := 5) (fr := (0, 0))).bx: that they can be read; m.sec: the bytes; m.sec_byt: their range
      haveI := ((RdB.own0 (b := b1) (bs := m.sec) (t := 108) (fr := (0, 0))).bx).one
      haveI := ((RdB.own (b := b2) (bs := m.sec) (r := t2) (t := 5) (fr := (0, 0))).bx).one
      have hbr := fun x : Ms => (Ms.beq_iff x x).2 rfl
      have hb1 := hbr (parseM bs).1
      have hb2 := hbr (parseM m.sec).1
      repeat' (first | with_reducible (first | refine go1 ?_ | refine sct ?_ | refine scf ?_ | refine sgr ?_) | with_reducible refine sw_guard_skip_u ?_ | ((with_reducible refine sw_call l20begun_ok ?_); rintro _ _ ⟨rfl, rfl⟩) | (with_reducible refine sw_guard_split (fun h => ?_) (fun h => ?_)) <;> (try (exfalso; first | contradiction | omega | exact h Iff.rfl)) | (with_reducible refine sc_cond (fun h => ?_) (fun h => ?_)) <;> (try (exfalso; first | contradiction | omega | exact h Iff.rfl)) | (with_reducible refine sw_pick (fun h => ?_) (fun h => ?_)) <;> (try (exfalso; first | contradiction | omega | exact h Iff.rfl)) | fail)
      refine sw_call (bEqual_bx b1 b2 _ _ _ _ m.sec (RdB.own0 (b := b1) (bs := m.sec) (t := 108) (fr := (0, 0))).bx (RdB.own (b := b2) (bs := m.sec) (r := t2) (t := 5) (fr := (0, 0))).bx m.sec_byt) ?_
      rintro _ _ ⟨rfl, rfl⟩
      repeat' (first | with_reducible (first | refine go1 ?_ | refine sct ?_ | refine scf ?_ | refine sgr ?_) | with_reducible refine sw_guard_skip_u ?_ | (with_reducible refine sw_guard_split (fun h => ?_) (fun h => ?_)) <;> (try (exfalso; first | contradiction | omega | exact h Iff.rfl)) | (with_reducible refine sc_cond (fun h => ?_) (fun h => ?_)) <;> (try (exfalso; first | contradiction | omega | exact h Iff.rfl)) | (with_reducible refine sw_pick (fun h => ?_) (fun h => ?_)) <;> (try (exfalso; first | contradiction | omega | exact h Iff.rfl)) | fail)
      refine sw_call (mParse_bx 0 _ _ bs hv hb) ?_
      rintro _ _ ⟨rfl, rfl⟩
      repeat' (first | with_reducible (first | refine go1 ?_ | refine sct ?_ | refine scf ?_ | refine sgr ?_) | fail)
      refine sw_alloc fun b9 => ?_
      refine sw_store_agg ?_
      repeat' (first | with_reducible (first | refine go1 ?_ | refine sct ?_ | refine scf ?_ | refine sgr ?_) | fail)
      refine sw_call (q20Parse_bx 0 _ _ bs hv hb) ?_
      rintro _ _ ⟨rfl, rfl⟩
      repeat' (first | with_reducible (first | refine go1 ?_ | refine sct ?_ | refine scf ?_ | refine sgr ?_) | fail)
      refine sw_alloc fun b10 => ?_
      refine sw_store_agg ?_
      repeat' (first | with_reducible (first | refine go1 ?_ | refine sct ?_ | refine scf ?_ | refine sgr ?_) | with_reducible refine sw_guard_skip_u ?_ | (with_reducible refine sw_guard_split (fun h => ?_) (fun h => ?_)) <;> (try (exfalso; first | contradiction | omega | exact h Iff.rfl)) | (with_reducible refine sc_cond (fun h => ?_) (fun h => ?_)) <;> (try (exfalso; first | contradiction | omega | exact h Iff.rfl)) | (with_reducible refine sw_pick (fun h => ?_) (fun h => ?_)) <;> (try (exfalso; first | contradiction | omega | exact h Iff.rfl)) | fail)
      refine sw_call (mParse_bx b1 _ _ m.sec (RdB.own0 (b := b1) (bs := m.sec) (t := 108) (fr := (0, 0))).bx m.sec_byt) ?_
      rintro _ _ ⟨rfl, rfl⟩
      repeat' (first | with_reducible (first | refine go1 ?_ | refine sct ?_ | refine scf ?_ | refine sgr ?_) | fail)
      refine sw_store_agg ?_
      repeat' (first | with_reducible (first | refine go1 ?_ | refine sct ?_ | refine scf ?_ | refine sgr ?_) | fail)
      refine sw_call (q20Parse_bx b2 _ _ m.sec (RdB.own (b := b2) (bs := m.sec) (r := t2) (t := 5) (fr := (0, 0))).bx m.sec_byt) ?_
      rintro _ _ ⟨rfl, rfl⟩
      repeat' (first | with_reducible (first | refine go1 ?_ | refine sct ?_ | refine scf ?_ | refine sgr ?_) | fail)
      refine sw_store_agg ?_
      repeat' (first | with_reducible (first | refine go1 ?_ | refine sct ?_ | refine scf ?_ | refine sgr ?_) | with_reducible refine sw_guard_skip_u ?_ | (with_reducible refine sw_guard_split (fun h => ?_) (fun h => ?_)) <;> (try (exfalso; first | contradiction | omega | exact h Iff.rfl)) | (with_reducible refine sc_cond (fun h => ?_) (fun h => ?_)) <;> (try (exfalso; first | contradiction | omega | exact h Iff.rfl)) | (with_reducible refine sw_pick (fun h => ?_) (fun h => ?_)) <;> (try (exfalso; first | contradiction | omega | exact h Iff.rfl)) | fail)
      refine sq_ret1 Try.results7 ?_
      refine ⟨_, ⟨by simp, F, rfl⟩, ?_⟩
      repeat' (first | with_reducible exact Ent.refl _ | with_reducible refine Ent.take_eq ?_ ?_ | rfl | with_reducible refine Ent.trans (Ent.drop _ _) ?_)

set_option maxRecDepth 100000 in
theorem read_bytesx {H : Type} {enc : TypeId × Value → H} {W : World} {base : Nat} {v : Value} {d : DataW H} {p : List MemPlace} (ho : Value.okWide Try.prog W .any base 24 v) (h : DataW.Trod enc Try.prog W 0 (fun _ => true) true 24 v d p) : ∃ bs, RdBx (ro W) v bs ∧ Byt bs := by
  rcases read_slice Try.underlying24 ho h with rfl | ⟨a, len, cap, fuel, rfl, hl, hm, hel⟩
  · exact ⟨[], ⟨none, 0, rfl, Nat.le_refl _, fun h => by simp at h, reads_nil _ _⟩, fun x hx => by simp at hx⟩
  · rw [l2cU8] at hel
    have hch : ∀ i, i < len → ∃ x : Int, (0 ≤ x ∧ x ≤ 255) ∧ CellsAt W (a.add i) [.int .u8 x] := by
      intro i hi
      obtain ⟨es, y, h1, h2, hd⟩ := hel i hi
      match es, h1 with
      | [e0], _ =>
        obtain ⟨x, rfl, hp⟩ := cell_int Try.underlying5 hd
        exact ⟨x, wf_u8 hp, by simpa using h2⟩
    obtain ⟨g, hg⟩ := Deep.choose_lt hch
    have hlen : ((List.range len).map g).length = len := by simp
    have hpl : 0 < len → a = ⟨a.block, a.off, none⟩ := fun h0 => by
      have h1 := (hg 0 h0).2
      rw [show a.add 0 = a by simp [Addr.add]] at h1
      exact cells_plain (m := 0) rfl h1
    refine ⟨(List.range len).map g, ⟨some a, cap, by rw [hlen], by rw [hlen]; exact hl, fun h0 => ⟨a.block, a.off, by rw [← hpl (by rw [hlen] at h0; exact h0)]⟩, reads_ro fun j u hj => ?_⟩, fun x hx => ?_⟩
    · have hlt : j < len := by have := (List.getElem?_eq_some_iff.1 hj).1; simpa using this
      simp only [List.map_map, List.getElem?_map, List.getElem?_range hlt, Option.map_some, Function.comp, Option.some.injEq] at hj
      subst hj
      have h1 := (hg j hlt).2 0 (.int .u8 (g j)) rfl
      have ha := hpl (by omega)
      refine ⟨a, rfl, ?_⟩
      rw [ha, add_plain] at h1 ⊢
      rw [add_plain] at h1
      simpa using h1
    · obtain ⟨i, hi, rfl⟩ := List.mem_map.1 hx
      exact (hg i (List.mem_range.1 hi)).1
theorem sector_walk {W : World} {m : Ms} {v : Value} {bs : List Int} (hm : m.In) (hv : RdBx (ro W) v bs) (hb : Byt bs) : Calls Try.prog 7 #[.agg m.cs.toArray, v] W fun e W' => e = .returned (.bool true) ∧ Below W.heap.size W W' := call_of_spec W (l20Sector_ok W m hm v bs hv hb)
end Go.Gsl
