/- The log: Open, the walk. -/
import Derived.Test.YtbmdaiopnnmamaaGW
import Derived.Test.YtbmdaiopnnmamaaGE
import Derived.Test.YtbmdaiopnnmamaaGD
import Derived.Test.YtbmdaiopnnmamaaGK
namespace Go.Gsl
set_option linter.unusedVariables false
open Go.Proofs

theorem two_one (k : IntKind) (x : Int) (a : Option Addr) (n c : Nat) : ∀ v ∈ [Value.int k x, .slice a n c], v.oneCell' = true := by
  intro v hv
  simp only [List.mem_cons, List.not_mem_nil, or_false] at hv
  rcases hv with rfl | rfl <;> rfl
theorem two_len (a b : Value) : [a, b].length = 2 := rfl

set_option maxHeartbeats 8000000 in
set_option maxRecDepth 4000 in
theorem wOpen_ok (pd : Nat) (s : Dk) (f n : Nat) (m : Mk) (hn : 2 ≤ n ∧ f + n ≤ s.sure.length) (hd : s.down = false) (hm : m.Ok) :
    Spec Try.prog 32 [.pointer (some ⟨pd, 0, none⟩), .int .i64 f, .int .i64 n, .agg (Mk.cs m).toArray] [pd] [DISK pd s]
    fun F w Rs' => ∃ p, w = .tuple #[.pointer (some ⟨p, 0, none⟩), .int .i64 0] ∧ Rs' = (p, LOG p (opnL (fndsOf s f n) pd f n m)) :: (pd, DISK pd s) :: F := by
  refine spec_of Try.func32 rfl Try.ntmps32 rfl ?_
  intro w0 F
  unfold Mk.cs
  refine DISK.scwf (p := pd) (s := s) fun hwf => ?_
  have hn1 := hwf.n1
  have hn2 := hwf.n2
  obtain ⟨hm1, hm2, hm3, hm4, hm5⟩ := hm
  have hm1' : 0 ≤ m.sector ∧ m.sector ≤ 1099511627776 := hm1
  have hm2' : 0 ≤ m.number ∧ m.number ≤ 1099511627776 := hm2
  have hm3' : 0 ≤ m.run ∧ m.run ≤ 1099511627776 := hm3
  repeat' (first | with_reducible (first | refine go1 ?_ | refine sct ?_ | refine scf ?_ | refine sgr ?_) | fail)
  refine sw_box fun bm => ?_
  repeat' (first | with_reducible refine sw_i64 (by omega) ?_ | with_reducible (first | refine go1 ?_ | refine sct ?_ | refine scf ?_ | refine sgr ?_) | with_reducible refine sw_guard_skip_u ?_ | ((with_reducible refine sw_call (dSectors_ok pd s) ?_); rintro _ _ ⟨rfl, rfl⟩) | ((with_reducible refine sw_call (wStamp_ok _) ?_); rintro _ _ ⟨rfl, rfl⟩) | (with_reducible refine sc_cond (fun h => ?_) (fun h => ?_)) <;> (try (exfalso; first | contradiction | omega | exact h Iff.rfl)) | (with_reducible refine sw_guard_split (fun h => ?_) (fun h => ?_)) <;> (try (exfalso; first | contradiction | omega | exact h Iff.rfl)) | (with_reducible refine sw_pick (fun h => ?_) (fun h => ?_)) <;> (try (exfalso; first | contradiction | omega | exact h Iff.rfl)) | fail)
  refine sw_call (wScan_ok pd s f n (by omega) (Dk.upAll hd hn.2)) ?_
  rintro _ _ ⟨b, c, t, ms, hml, hmc, hms, hmt, rfl, rfl⟩
  repeat' (first | with_reducible refine sw_i64 (by omega) ?_ | with_reducible (first | refine go1 ?_ | refine sct ?_ | refine scf ?_ | refine sgr ?_) | with_reducible refine sw_guard_skip_u ?_ | (with_reducible refine sc_cond (fun h => ?_) (fun h => ?_)) <;> (try (exfalso; first | contradiction | omega | exact h Iff.rfl)) | (with_reducible refine sw_guard_split (fun h => ?_) (fun h => ?_)) <;> (try (exfalso; first | contradiction | omega | exact h Iff.rfl)) | (with_reducible refine sw_pick (fun h => ?_) (fun h => ?_)) <;> (try (exfalso; first | contradiction | omega | exact h Iff.rfl)) | fail)
  refine sw_build [.pointer (some ⟨pd, 0, none⟩), .int .i64 f, .int .i64 n, .int .i64 1, .int .i64 0, .int .i64 m.sector, .slice none 0 0, .slice none 0 0, .int .i64 m.sector, .int .i64 m.offset, .int .i64 m.number, .int .i64 m.run, .slice none 0 0, .int .i64 0, .int .i64 0, .bool false] (by kernel_rfl) ?_
  refine sw_box fun p => ?_
  repeat' (first | with_reducible (first | refine go1 ?_ | refine sct ?_ | refine scf ?_ | refine sgr ?_) | fail)
  refine sw_alloc fun bv => ?_
  repeat' (first | with_reducible (first | refine go1 ?_ | refine sct ?_ | refine scf ?_ | refine sgr ?_) | with_reducible refine sw_store ?_ | fail)
  have hfw : ∀ x ∈ ms, x.1.Wf := by
    intro x hx
    obtain ⟨i, hi, rfl⟩ := List.mem_iff_getElem.1 hx
    have h1 := hms i (by omega)
    rw [List.getElem?_eq_getElem hi] at h1
    simp only [Option.map_some, Option.some.injEq] at h1
    rw [h1]
    exact Fnd.of_wf (Dk.now_wf hwf (by omega) (by omega)).byte
  have hfs : ∀ x ∈ ms.map Prod.fst, x.Wf := by
    intro x hx
    obtain ⟨y, hy, rfl⟩ := List.mem_map.1 hx
    exact hfw y hy
  refine sc_opn (k := 7001) (r := Bag (fbag ms)) (α := Unit) (fun _ => ∀ x ∈ ms, ∃ a c', x.2 = .slice a x.1.data.length c' ∧ (0 < x.1.data.length → a ≠ none)) (fun _ => Bag (fbag ms)) (fun x hx => ⟨(), hx.slices, hx⟩) fun _ hsl => ?_
  have hfnds := fndsOf_eq hml hms
  clear hms hwf
  refine sc_loop (α := { i : Nat // i ≤ n }) (fun i => [(7, .pointer (some ⟨bm, 0, none⟩)), (12, .pointer (some ⟨bv, 0, none⟩)), (10, .slice (some ⟨b, 0, none⟩) n c), (92, .slice (some ⟨b, 0, none⟩) n c), (93, .int .i64 n), (94, .int .i64 (i.1 : Int))])
    (fun i => (bv, pts bv (.cells [.pointer (some ⟨p, 0, none⟩)].toArray 61 (0, 0))) :: (p, pts p (lobj pd f n (runF ((ms.map Prod.fst).take i.1) 1) 0 m.sector (.slice none 0 0) (.slice none 0 0) m (.slice none 0 0) 0 0 false)) :: (bm, pts bm (mobj m)) :: (b, pts b (.cells (fall ms ++ t).toArray 117 (0, 0))) :: (7001, Bag (fbag ms)) :: (pd, DISK pd s) :: F) (fun i => n - i.1) ⟨0, Nat.zero_le _⟩ ?_ ?_ ?_
  · repeat' (first | exact says_nil | refine says_cons rfl ?_ | refine says_cons (by simp) ?_)
  · repeat' (first | with_reducible exact Ent.refl _ | with_reducible refine Ent.take_eq ?_ ?_ | rfl | with_reducible refine Ent.oR ?_ | with_reducible refine Ent.trans (Ent.drop _ _) ?_)
  rintro ⟨i, hi⟩ e
  (try simp only at hi)
  simp only [List.cons_append, List.nil_append]
  repeat' (first | with_reducible (first | refine go1 ?_ | refine sct ?_ | refine scf ?_ | refine sgr ?_) | (with_reducible refine sc_cond (fun h => ?_) (fun h => ?_)) <;> (try (exfalso; first | contradiction | omega | exact h Iff.rfl)) | fail)
  · have hlt : i < ms.length := by omega
    have hx : ms[i]? = some ms[i] := List.getElem?_eq_getElem hlt
    have hmem : ms[i] ∈ ms := List.getElem_mem hlt
    have hfx : (ms.map Prod.fst)[i]? = some ms[i].1 := by rw [List.getElem?_map, hx]; rfl
    generalize ms[i] = x at hx hmem hfx
    have hfa := fall_at (t := t) hx
    obtain ⟨a, c', hxv, _⟩ := hsl x hmem
    have hxw := (hfw x hmem).2.1
    obtain ⟨⟨ok, q, run, began, data⟩, v⟩ := x
    simp only at hxv hfx hxw
    subst hxv
    have hrs : runF ((ms.map Prod.fst).take (i + 1)) 1 = if ok then max (runF ((ms.map Prod.fst).take i) 1) (run + 1) else runF ((ms.map Prod.fst).take i) 1 := by
      rw [List.take_add_one, hfx, Option.toList_some, runF_snoc]
    have hri := runF_in (xs := (ms.map Prod.fst).take i) (fun x hx => hfs x (List.mem_of_mem_take hx)) (r := 1) (by omega)
    refine sw_op (h := runop_indexN i (by omega)) ?_
    refine sw_op (h := runop_loadPart [Value.bool ok, .int .i64 q, .int .i64 run, .int .i64 began, .slice a data.length c'] rfl (by rw [Nat.zero_add]; exact hfa)) ?_
    refine sw_alloc fun b14 => ?_
    refine sw_store_agg ?_
    cases ok with
    | false =>
      rw [if_neg (by decide)] at hrs
      repeat' (first | with_reducible refine sw_i64 (by omega) ?_ | with_reducible (first | refine go1 ?_ | refine sct ?_ | refine scf ?_ | refine sgr ?_) | (with_reducible refine sc_cond (fun h => ?_) (fun h => ?_)) <;> (try (exfalso; first | contradiction | omega | exact h Iff.rfl)) | fail)
      refine sq_round ⟨i + 1, by omega⟩ ?_ ?_ ?_
      · show n - (i + 1) < n - i
        omega
      · repeat' (first | exact says_nil | refine says_cons rfl ?_ | refine says_cons (by simp) ?_)
      · show Ent _ ((bv, pts bv (.cells [.pointer (some ⟨p, 0, none⟩)].toArray 61 (0, 0))) :: (p, pts p (lobj pd f n (runF ((ms.map Prod.fst).take (i + 1)) 1) 0 m.sector (.slice none 0 0) (.slice none 0 0) m (.slice none 0 0) 0 0 false)) :: (bm, pts bm (mobj m)) :: (b, pts b (.cells (fall ms ++ t).toArray 117 (0, 0))) :: (7001, Bag (fbag ms)) :: (pd, DISK pd s) :: F)
        rw [hrs]
        repeat' (first | with_reducible exact Ent.refl _ | with_reducible refine Ent.take_eq ?_ ?_ | rfl | with_reducible refine Ent.oR ?_ | with_reducible refine Ent.trans (Ent.drop _ _) ?_)
    | true =>
      rw [if_pos rfl] at hrs
      repeat' (first | with_reducible refine sw_i64 (by omega) ?_ | with_reducible (first | refine go1 ?_ | refine sct ?_ | refine scf ?_ | refine sgr ?_) | (with_reducible refine sc_cond (fun h => ?_) (fun h => ?_)) <;> (try (exfalso; first | contradiction | omega | exact h Iff.rfl)) | fail)
      generalize runF ((ms.map Prod.fst).take i) 1 = ra at *
      refine sc_lin ([(bv, pts bv (.cells [.pointer (some ⟨p, 0, none⟩)].toArray 61 (0, 0))), (b14, pts b14 (.cells [Value.bool true, .int .i64 q, .int .i64 run, .int .i64 began, .slice a data.length c'].toArray 117 (0, 0)))]) (llp 0 (llp 1 (llp 2 (llp 3 (llp 5 (llp 6 (llp 7 (lle 4 (llp 8 (llp 9 (llp 10 (lle 11 ll0)))))))))))) (by kernel_rfl) rfl (by kernel_rfl) ?_
      all_goals (iterate 6 refine go1l ?_)
      all_goals (first | refine sl_in (by omega) ?_ | refine go1l ?_)
      all_goals refine sl_eff ?_
      all_goals (repeat' (first | with_reducible refine sw_i64 (by omega) ?_ | with_reducible (first | refine go1 ?_ | refine sct ?_ | refine scf ?_ | refine sgr ?_) | with_reducible refine sw_store ?_ | with_reducible refine sl_back ?_ | fail))
      all_goals (iterate 3 refine go1l ?_)
      all_goals refine sl_eff ?_
      all_goals (repeat' (first | with_reducible refine sw_i64 (by omega) ?_ | with_reducible (first | refine go1 ?_ | refine sct ?_ | refine scf ?_ | refine sgr ?_) | with_reducible refine sw_store ?_ | with_reducible refine sl_back ?_ | fail))
      all_goals refine sl_done ?_
      repeat' (first | with_reducible refine sw_i64 (by omega) ?_ | with_reducible (first | refine go1 ?_ | refine sct ?_ | refine scf ?_ | refine sgr ?_) | fail)
      refine sq_round ⟨i + 1, by omega⟩ ?_ ?_ ?_
      · show n - (i + 1) < n - i
        omega
      · repeat' (first | exact says_nil | refine says_cons rfl ?_ | refine says_cons (by simp) ?_)
      · show Ent _ ((bv, pts bv (.cells [.pointer (some ⟨p, 0, none⟩)].toArray 61 (0, 0))) :: (p, pts p (lobj pd f n (runF ((ms.map Prod.fst).take (i + 1)) 1) 0 m.sector (.slice none 0 0) (.slice none 0 0) m (.slice none 0 0) 0 0 false)) :: (bm, pts bm (mobj m)) :: (b, pts b (.cells (fall ms ++ t).toArray 117 (0, 0))) :: (7001, Bag (fbag ms)) :: (pd, DISK pd s) :: F)
        rw [hrs, show max ra (run + 1) = if ra < run + 1 then run + 1 else ra by split <;> omega]
        repeat' (first | with_reducible exact Ent.refl _ | with_reducible refine Ent.take_eq ?_ ?_ | rfl | with_reducible refine Ent.oR ?_ | with_reducible refine Ent.trans (Ent.drop _ _) ?_)
  have htk : (ms.map Prod.fst).take i = ms.map Prod.fst := by rw [List.take_of_length_le (by rw [List.length_map]; omega)]
  rw [htk]
  generalize hra : runF (ms.map Prod.fst) 1 = ra
  repeat' (first | with_reducible (first | refine go1 ?_ | refine sct ?_ | refine scf ?_ | refine sgr ?_) | ((with_reducible refine sw_call (wFollow_ok _ _ _ _ _) ?_); rintro _ _ ⟨bl, bq, ba, rfl, rfl⟩) | fail)
  obtain ⟨all, hall⟩ : ∃ all, all = flw ms m.sector ms.length 0 m.run := ⟨_, rfl⟩
  have hit := wFollow1_iter bl bq ba b c t ms m.sector m.run (fun x hx => by obtain ⟨a, c', h, _⟩ := hsl x hx; exact ⟨a, c', h⟩) (by omega) hm1
  rw [← hall, hml] at hit
  refine sc_rangeFuncX hit rfl
    (fun pre => (7003, hand (Runs m.sector pre) (ORow p (fun vr vu => lobj pd f n ra 0 m.sector vr vu m (.slice none 0 0) 0 0 false) (rowOf pre) (runsOf pre))) :: (bv, pts bv (.cells [.pointer (some ⟨p, 0, none⟩)].toArray 61 (0, 0))) :: (bm, pts bm (mobj m)) :: (7001, Bag (fbag ms)) :: (pd, DISK pd s) :: F)
    (fun ys => (7003, fun h => ∃ rr : List Int × List Int, (∀ rest, rowF m.sector (ys.map Prod.fst ++ rest) [] [] = rr) ∧ ORow p (fun vr vu => lobj pd f n ra 0 m.sector vr vu m (.slice none 0 0) 0 0 false) rr.1 rr.2 h) :: (bv, pts bv (.cells [.pointer (some ⟨p, 0, none⟩)].toArray 61 (0, 0))) :: (bm, pts bm (mobj m)) :: (7001, Bag (fbag ms)) :: (pd, DISK pd s) :: F)
    ((7003, ORow p (fun vr vu => lobj pd f n ra 0 m.sector vr vu m (.slice none 0 0) 0 0 false) (rowF m.sector (all.map Prod.fst) [] []).1 (rowF m.sector (all.map Prod.fst) [] []).2) :: (bv, pts bv (.cells [.pointer (some ⟨p, 0, none⟩)].toArray 61 (0, 0))) :: (bm, pts bm (mobj m)) :: (7001, Bag (fbag ms)) :: (pd, DISK pd s) :: F) ?_ ?_ ?_ ?_ ?_
  · refine Ent.trans (B := (p, pts p (lobj pd f n ra 0 m.sector (.slice none 0 0) (.slice none 0 0) m (.slice none 0 0) 0 0 false)) :: (bv, pts bv (.cells [.pointer (some ⟨p, 0, none⟩)].toArray 61 (0, 0))) :: (bm, pts bm (mobj m)) :: (7001, Bag (fbag ms)) :: (pd, DISK pd s) :: F) ?_ (Ent.trans (ORow.close (p := p) (mk := fun vr vu => lobj pd f n ra 0 m.sector vr vu m (.slice none 0 0) 0 0 false) (row := []) (runs := []) (o1 := none) (o2 := none) (fun _ => rfl) (by simp)) (Ent.head fun h hh => ⟨Runs.nil _, hh⟩))
    repeat' (first | with_reducible exact Ent.refl _ | with_reducible refine Ent.take_eq ?_ ?_ | rfl | with_reducible refine Ent.oR ?_ | with_reducible refine Ent.trans (Ent.drop _ _) ?_)
  · intro w1 lp rc F' pre x hN
    obtain ⟨hN1, hN2⟩ := hN
    obtain ⟨hxs, hxm, hxb⟩ := flw_get (hall ▸ hN1)
    have hpl : ∀ y ∈ pre, y.1.data.length = 482 := by
      intro y hy
      obtain ⟨j, hj, rfl⟩ := List.mem_iff_getElem.1 hy
      have h1 : (flw ms m.sector ms.length 0 m.run)[j]? = some pre[j] := by
        rw [← hall, ← List.getElem?_take_of_lt hj, ← hN2, List.getElem?_eq_getElem hj]
      have h2 := hxb j hj _ h1
      have h3 := (hfw _ (flw_get h1).2.1).2.2.2.1
      omega
    have hrl := rowOf_len hpl
    have hpln : pre.length < n := by
      have h1 := (List.getElem?_eq_some_iff.1 hN1).1
      have h2 := flw_len (ms := ms) (seq := m.sector) (k := ms.length) (i := 0) (last := m.run)
      rw [← hall] at h2
      omega
    obtain ⟨a, c', hxv, han⟩ := hsl x hxm
    obtain ⟨_, hxr, hxw, hxl, hxby⟩ := hfw x hxm
    obtain ⟨⟨ok, q, run, began, data⟩, v⟩ := x
    simp only at hxv hxs hxr hxw hxl hxby han
    subst hxv
    simp only [List.cons_append]
    refine sc_opn (k := 7003) (r := hand (Runs m.sector pre) (ORow p (fun vr vu => lobj pd f n ra 0 m.sector vr vu m (.slice none 0 0) 0 0 false) (rowOf pre) (runsOf pre))) (α := Unit) (fun _ => Runs m.sector pre) (fun _ => ORow p (fun vr vu => lobj pd f n ra 0 m.sector vr vu m (.slice none 0 0) 0 0 false) (rowOf pre) (runsOf pre)) (fun x hx => ⟨(), hx.1, hx.2⟩) fun _ hrun => ?_
    simp only [fcs]
    refine sc_orow p (fun vr vu => lobj pd f n ra 0 m.sector vr vu m (.slice none 0 0) 0 0 false) (rowOf pre) (runsOf pre) fun o1 o2 ho1 ho2 => ?_
    have hfm : (Value.slice a data.length c', data) ∈ fbag ms := List.mem_map.2 ⟨_, hxm, rfl⟩
    have hrl2 : (runsOf pre).length = pre.length := by unfold runsOf; rw [List.length_map]
    have hl2 : o2 = none → (runsOf pre).length = 0 := fun h => by rw [ho2.1 h]; rfl
    repeat' (first | with_reducible (first | refine go1 ?_ | refine sct ?_ | refine scf ?_ | refine sgr ?_) | fail)
    refine sw_alloc fun b15 => ?_
    repeat' (first | with_reducible (first | refine go1 ?_ | refine sct ?_ | refine scf ?_ | refine sgr ?_) | fail)
    refine sw_store_agg ?_
    repeat' (first | with_reducible (first | refine go1 ?_ | refine sct ?_ | refine scf ?_ | refine sgr ?_) | with_reducible refine sq_rAssign ?_ | fail)
    refine sw_op (h := runop_lenV o2 hl2) ?_
    repeat' (first | with_reducible (first | refine go1 ?_ | refine sct ?_ | refine scf ?_ | refine sgr ?_) | fail)
    rcases o2 with _ | ⟨b2, t2⟩
    · have hr0 := ho2.1 rfl
      have hr1 := hl2 rfl
      refine sc_lin ([(bv, pts bv (.cells [.pointer (some ⟨p, 0, none⟩)].toArray 61 (0, 0))), (p, pts p (lobj pd f n ra 0 m.sector (bufV (rowOf pre).length o1) (bufV (runsOf pre).length none) m (.slice none 0 0) 0 0 false)), (b15, pts b15 (.cells [Value.bool ok, .int .i64 q, .int .i64 run, .int .i64 began, .slice a data.length c'].toArray 117 (0, 0)))]) (llp 0 (llp 1 (llp 2 (llp 3 (llp 4 (llp 5 (llp 6 (llp 7 (llp 8 (llp 9 (llp 10 (llp 11 (llp 12 (llp 13 (llp 14 (llp 15 (llp 16 (llp 17 (llp 18 (llp 19 (llp 20 (llp 21 (llp 22 ll0))))))))))))))))))))))) (by kernel_rfl) rfl (by kernel_rfl) ?_
      all_goals (iterate 3 refine go1l ?_)
      all_goals (first | refine go1l ?_ | ((refine sl_split 126 (fun h => ?_) (fun h => ?_)) <;> (try (exfalso; first | contradiction | omega | exact h Iff.rfl)) <;> refine go1l ?_))
      all_goals (first | refine go1l ?_ | ((refine sl_split 126 (fun h => ?_) (fun h => ?_)) <;> (try (exfalso; first | contradiction | omega | exact h Iff.rfl)) <;> refine go1l ?_))
      all_goals (first | refine go1l ?_ | ((refine sl_split 126 (fun h => ?_) (fun h => ?_)) <;> (try (exfalso; first | contradiction | omega | exact h Iff.rfl)) <;> refine go1l ?_))
      all_goals (first | refine go1l ?_ | ((refine sl_split 126 (fun h => ?_) (fun h => ?_)) <;> (try (exfalso; first | contradiction | omega | exact h Iff.rfl)) <;> refine go1l ?_))
      all_goals (first | refine go1l ?_ | ((refine sl_split 126 (fun h => ?_) (fun h => ?_)) <;> (try (exfalso; first | contradiction | omega | exact h Iff.rfl)) <;> refine go1l ?_))
      all_goals (first | refine go1l ?_ | ((refine sl_split 126 (fun h => ?_) (fun h => ?_)) <;> (try (exfalso; first | contradiction | omega | exact h Iff.rfl)) <;> refine go1l ?_))
      all_goals (first | refine go1l ?_ | ((refine sl_split 126 (fun h => ?_) (fun h => ?_)) <;> (try (exfalso; first | contradiction | omega | exact h Iff.rfl)) <;> refine go1l ?_))
      all_goals (first | (first | refine sl_in_g (by omega) ?_ | refine go1l ?_) | ((refine sl_split 126 (fun h => ?_) (fun h => ?_)) <;> (try (exfalso; first | contradiction | omega | exact h Iff.rfl)) <;> (first | refine sl_in_g (by omega) ?_ | refine go1l ?_)))
      all_goals (first | refine go1l ?_ | ((refine sl_split 126 (fun h => ?_) (fun h => ?_)) <;> (try (exfalso; first | contradiction | omega | exact h Iff.rfl)) <;> refine go1l ?_))
      all_goals (first | refine go1l ?_ | ((refine sl_split 126 (fun h => ?_) (fun h => ?_)) <;> (try (exfalso; first | contradiction | omega | exact h Iff.rfl)) <;> refine go1l ?_))
      all_goals (first | refine go1l ?_ | ((refine sl_split 126 (fun h => ?_) (fun h => ?_)) <;> (try (exfalso; first | contradiction | omega | exact h Iff.rfl)) <;> refine go1l ?_))
      all_goals (first | refine go1l ?_ | ((refine sl_split 126 (fun h => ?_) (fun h => ?_)) <;> (try (exfalso; first | contradiction | omega | exact h Iff.rfl)) <;> refine go1l ?_))
      all_goals refine go1l ?_
      all_goals (first | refine go1l ?_ | ((refine sl_split 139 (fun h => ?_) (fun h => ?_)) <;> (try (exfalso; first | contradiction | omega | exact h Iff.rfl)) <;> refine go1l ?_))
      all_goals (first | refine go1l ?_ | ((refine sl_split 139 (fun h => ?_) (fun h => ?_)) <;> (try (exfalso; first | contradiction | omega | exact h Iff.rfl)) <;> refine go1l ?_))
      all_goals (first | refine go1l ?_ | ((refine sl_split 139 (fun h => ?_) (fun h => ?_)) <;> (try (exfalso; first | contradiction | omega | exact h Iff.rfl)) <;> refine go1l ?_))
      all_goals (first | refine go1l ?_ | ((refine sl_split 139 (fun h => ?_) (fun h => ?_)) <;> (try (exfalso; first | contradiction | omega | exact h Iff.rfl)) <;> refine go1l ?_))
      all_goals (first | (first | refine sl_in_g (by omega) ?_ | refine go1l ?_) | ((refine sl_split 139 (fun h => ?_) (fun h => ?_)) <;> (try (exfalso; first | contradiction | omega | exact h Iff.rfl)) <;> (first | refine sl_in_g (by omega) ?_ | refine go1l ?_)))
      all_goals (first | refine go1l ?_ | ((refine sl_split 139 (fun h => ?_) (fun h => ?_)) <;> (try (exfalso; first | contradiction | omega | exact h Iff.rfl)) <;> refine go1l ?_))
      all_goals (first | refine go1l ?_ | ((refine sl_split 139 (fun h => ?_) (fun h => ?_)) <;> (try (exfalso; first | contradiction | omega | exact h Iff.rfl)) <;> refine go1l ?_))
      all_goals refine sl_done ?_
      have hnb : ¬ (⟨ok, q, run, began, data⟩ : Fnd).brk (runsOf pre) := fun h => by have := h.1; omega
      repeat' (first | with_reducible (first | refine go1 ?_ | refine sct ?_ | refine scf ?_ | refine sgr ?_) | (with_reducible refine sc_cond (fun h => ?_) (fun h => ?_)) <;> (try (exfalso; first | contradiction | omega | exact h Iff.rfl)) | fail)
      -- none: the runs' buffer
      refine sc_lin ([(bv, pts bv (.cells [.pointer (some ⟨p, 0, none⟩)].toArray 61 (0, 0))), (b15, pts b15 (.cells [Value.bool ok, .int .i64 q, .int .i64 run, .int .i64 began, .slice a data.length c'].toArray 117 (0, 0)))]) (llp 0 (llp 1 (llp 2 (llp 3 (llp 5 (llp 6 (lle 4 (lle 7 (llp 8 (llp 9 (lle 10 ll0))))))))))) (by kernel_rfl) rfl (by kernel_rfl) ?_
      all_goals (iterate 6 refine go1l ?_)
      all_goals refine sl_eff ?_
      all_goals (repeat' (first | with_reducible (first | refine go1 ?_ | refine sct ?_ | refine scf ?_ | refine sgr ?_) | with_reducible refine sw_store ?_ | with_reducible refine sw_appendV (kd := .u8) (rowOf pre) data o1 ho1 (bag_src (k := 7001) hfm) ⟨rfl, by omega, by omega⟩ fun o1' ho1' => ?_ | with_reducible refine sl_back ?_ | fail))
      all_goals refine sl_eff ?_
      all_goals (repeat' (first | with_reducible (first | refine go1 ?_ | refine sct ?_ | refine scf ?_ | refine sgr ?_) | with_reducible refine sw_store ?_ | with_reducible refine sw_appendV (kd := .u8) (rowOf pre) data o1 ho1 (bag_src (k := 7001) hfm) ⟨rfl, by omega, by omega⟩ fun o1' ho1' => ?_ | with_reducible refine sl_back ?_ | fail))
      all_goals (iterate 2 refine go1l ?_)
      all_goals refine sl_eff ?_
      all_goals (repeat' (first | with_reducible (first | refine go1 ?_ | refine sct ?_ | refine scf ?_ | refine sgr ?_) | with_reducible refine sw_store ?_ | with_reducible refine sw_appendV (kd := .u8) (rowOf pre) data o1 ho1 (bag_src (k := 7001) hfm) ⟨rfl, by omega, by omega⟩ fun o1' ho1' => ?_ | with_reducible refine sl_back ?_ | fail))
      all_goals refine sl_done ?_
      repeat' (first | with_reducible (first | refine go1 ?_ | refine sct ?_ | refine scf ?_ | refine sgr ?_) | fail)
      refine sc_drawCH (m := 12) ([(bv, pts bv (.cells [.pointer (some ⟨p, 0, none⟩)].toArray 61 (0, 0))), (b15, pts b15 (.cells [Value.bool ok, .int .i64 q, .int .i64 run, .int .i64 began, .slice a data.length c'].toArray 117 (0, 0)))]) CalmC.out (by kernel_rfl) rfl (fun hcalm => ?_)
      all_goals (first | refine sh_take 0 hcalm rfl (by kernel_rfl) (by kernel_rfl) (by kernel_rfl) ?_)
      all_goals (first | refine sh_take 1 hcalm rfl (by kernel_rfl) (by kernel_rfl) (by kernel_rfl) ?_)
      all_goals (first | refine sh_take 2 hcalm rfl (by kernel_rfl) (by kernel_rfl) (by kernel_rfl) ?_)
      all_goals (first | refine sh_take 3 hcalm rfl (by kernel_rfl) (by kernel_rfl) (by kernel_rfl) ?_)
      all_goals (first | refine sh_take 5 hcalm rfl (by kernel_rfl) (by kernel_rfl) (by kernel_rfl) ?_)
      all_goals (first | refine sh_take 6 hcalm rfl (by kernel_rfl) (by kernel_rfl) (by kernel_rfl) ?_)
      refine sh_two 4 7 rfl rfl (by kernel_rfl) rfl ?g1a ?g1b
      case' g1a =>
        all_goals (repeat' (first | with_reducible (first | refine go1 ?_ | refine sct ?_ | refine scf ?_ | refine sgr ?_) | with_reducible refine sw_store ?_ | with_reducible refine sw_buildSlice [Value.int .i64 run] (by omega) rfl fun b7 => ?_ | with_reducible refine sw_appendV1 (kd := .i64) (b7 := b7) (runsOf pre) run (none) (fun h => ho2.1 h) ⟨by omega, by omega⟩ fun o2' ho2' => ?_ | with_reducible refine sh_back ?_ | fail))
        all_goals (refine sh_one 7 rfl (by kernel_rfl) rfl ?_)
        all_goals (repeat' (first | with_reducible (first | refine go1 ?_ | refine sct ?_ | refine scf ?_ | refine sgr ?_) | with_reducible refine sw_store ?_ | with_reducible refine sw_buildSlice [Value.int .i64 run] (by omega) rfl fun b7 => ?_ | with_reducible refine sw_appendV1 (kd := .i64) (b7 := b7) (runsOf pre) run (none) (fun h => ho2.1 h) ⟨by omega, by omega⟩ fun o2' ho2' => ?_ | with_reducible refine sh_back ?_ | fail))
        all_goals (refine sh_one 8 rfl (by kernel_rfl) rfl ?_)
        all_goals (repeat' (first | with_reducible (first | refine go1 ?_ | refine sct ?_ | refine scf ?_ | refine sgr ?_) | with_reducible refine sw_store ?_ | with_reducible refine sw_buildSlice [Value.int .i64 run] (by omega) rfl fun b7 => ?_ | with_reducible refine sw_appendV1 (kd := .i64) (b7 := b7) (runsOf pre) run (none) (fun h => ho2.1 h) ⟨by omega, by omega⟩ fun o2' ho2' => ?_ | with_reducible refine sh_back ?_ | fail))
        all_goals (first | refine sh_take 9 hcalm rfl (by kernel_rfl) (by kernel_rfl) (by kernel_rfl) ?_)
        all_goals (first | refine sh_take 10 hcalm rfl (by kernel_rfl) (by kernel_rfl) (by kernel_rfl) ?_)
        all_goals (refine sh_one 11 rfl (by kernel_rfl) rfl ?_)
        all_goals (repeat' (first | with_reducible (first | refine go1 ?_ | refine sct ?_ | refine scf ?_ | refine sgr ?_) | with_reducible refine sw_store ?_ | with_reducible refine sw_buildSlice [Value.int .i64 run] (by omega) rfl fun b7 => ?_ | with_reducible refine sw_appendV1 (kd := .i64) (b7 := b7) (runsOf pre) run (none) (fun h => ho2.1 h) ⟨by omega, by omega⟩ fun o2' ho2' => ?_ | with_reducible refine sh_back ?_ | fail))
        all_goals (refine sh_done (by kernel_rfl) rfl ?_)
      case' g1b =>
        all_goals (repeat' (first | with_reducible (first | refine go1 ?_ | refine sct ?_ | refine scf ?_ | refine sgr ?_) | with_reducible refine sw_store ?_ | with_reducible refine sw_buildSlice [Value.int .i64 run] (by omega) rfl fun b7 => ?_ | with_reducible refine sw_appendV1 (kd := .i64) (b7 := b7) (runsOf pre) run (none) (fun h => ho2.1 h) ⟨by omega, by omega⟩ fun o2' ho2' => ?_ | with_reducible refine sh_back ?_ | fail))
        all_goals (refine sh_one 4 rfl (by kernel_rfl) rfl ?_)
        all_goals (repeat' (first | with_reducible (first | refine go1 ?_ | refine sct ?_ | refine scf ?_ | refine sgr ?_) | with_reducible refine sw_store ?_ | with_reducible refine sw_buildSlice [Value.int .i64 run] (by omega) rfl fun b7 => ?_ | with_reducible refine sw_appendV1 (kd := .i64) (b7 := b7) (runsOf pre) run (none) (fun h => ho2.1 h) ⟨by omega, by omega⟩ fun o2' ho2' => ?_ | with_reducible refine sh_back ?_ | fail))
        all_goals (refine sh_one 8 rfl (by kernel_rfl) rfl ?_)
        all_goals (repeat' (first | with_reducible (first | refine go1 ?_ | refine sct ?_ | refine scf ?_ | refine sgr ?_) | with_reducible refine sw_store ?_ | with_reducible refine sw_buildSlice [Value.int .i64 run] (by omega) rfl fun b7 => ?_ | with_reducible refine sw_appendV1 (kd := .i64) (b7 := b7) (runsOf pre) run (none) (fun h => ho2.1 h) ⟨by omega, by omega⟩ fun o2' ho2' => ?_ | with_reducible refine sh_back ?_ | fail))
        all_goals (first | refine sh_take 9 hcalm rfl (by kernel_rfl) (by kernel_rfl) (by kernel_rfl) ?_)
        all_goals (first | refine sh_take 10 hcalm rfl (by kernel_rfl) (by kernel_rfl) (by kernel_rfl) ?_)
        all_goals (refine sh_one 11 rfl (by kernel_rfl) rfl ?_)
        all_goals (repeat' (first | with_reducible (first | refine go1 ?_ | refine sct ?_ | refine scf ?_ | refine sgr ?_) | with_reducible refine sw_store ?_ | with_reducible refine sw_buildSlice [Value.int .i64 run] (by omega) rfl fun b7 => ?_ | with_reducible refine sw_appendV1 (kd := .i64) (b7 := b7) (runsOf pre) run (none) (fun h => ho2.1 h) ⟨by omega, by omega⟩ fun o2' ho2' => ?_ | with_reducible refine sh_back ?_ | fail))
        all_goals (refine sh_done (by kernel_rfl) rfl ?_)
      all_goals
        repeat' (first | with_reducible (first | refine go1 ?_ | refine sct ?_ | refine scf ?_ | refine sgr ?_) | fail)
        refine sq_rEnd ?_
        have hrow := rowOf_snoc pre ((⟨ok, q, run, began, data⟩ : Fnd), Value.slice a data.length c')
        have hruns := runsOf_snoc pre ((⟨ok, q, run, began, data⟩ : Fnd), Value.slice a data.length c')
        simp only at hrow hruns
        have hc := ORow.close (p := p) (mk := fun vr vu => lobj pd f n ra 0 m.sector vr vu m (.slice none 0 0) 0 0 false) (row := rowOf (pre ++ [((⟨ok, q, run, began, data⟩ : Fnd), Value.slice a data.length c')])) (runs := runsOf (pre ++ [((⟨ok, q, run, began, data⟩ : Fnd), Value.slice a data.length c')])) (o1 := o1') (o2 := o2') (F := (bv, pts bv (.cells [.pointer (some ⟨p, 0, none⟩)].toArray 61 (0, 0))) :: (bm, pts bm (mobj m)) :: (7001, Bag (fbag ms)) :: (pd, DISK pd s) :: (F ++ F'))
          (fun h => by rw [hrow, ho1 (ho1'.1 h).1, (ho1'.1 h).2]; rfl) ⟨fun h => absurd h ho2', fun h => by rw [hruns] at h; simp at h⟩
        refine Ent.trans ?_ (Ent.trans hc (Ent.head fun h hh => ⟨hrun.snoc hnb, hh⟩))
        rw [hrow, hruns]
        repeat' (first | with_reducible exact Ent.refl _ | with_reducible refine Ent.take_eq ?_ ?_ | rfl | with_reducible refine Ent.oR ?_ | with_reducible refine Ent.trans (Ent.drop _ _) ?_)
    · have hpos : 0 < (runsOf pre).length := by
        rcases Nat.eq_zero_or_pos (runsOf pre).length with h | h
        · have := ho2.2 (List.eq_nil_of_length_eq_zero h)
          cases this
        · exact h
      obtain ⟨lst, hlst⟩ : ∃ lst, (runsOf pre)[(runsOf pre).length - 1]? = some lst := ⟨_, List.getElem?_eq_getElem (by omega)⟩
      have hgl : (runsOf pre).getLast?.getD 0 = lst := by rw [List.getLast?_eq_getElem?, hlst]; rfl
      have hlv : ((runsOf pre).map (Value.int .i64) ++ t2)[(runsOf pre).length - 1]? = some (.int .i64 lst) := by
        rw [List.getElem?_append_left (by rw [List.length_map]; omega), List.getElem?_map, hlst]; rfl
      rw [vG_some]
      refine sc_lin ([(bv, pts bv (.cells [.pointer (some ⟨p, 0, none⟩)].toArray 61 (0, 0))), (p, pts p (lobj pd f n ra 0 m.sector (bufV (rowOf pre).length o1) (bufV (runsOf pre).length (some (b2, t2))) m (.slice none 0 0) 0 0 false)), (b15, pts b15 (.cells [Value.bool ok, .int .i64 q, .int .i64 run, .int .i64 began, .slice a data.length c'].toArray 117 (0, 0))), (b2, pts b2 (.cells ((runsOf pre).map (Value.int .i64) ++ t2).toArray 2 (0, 0)))]) (llp 0 (llp 1 (llp 2 (llp 3 (llp 4 (llp 5 (llp 6 (llp 7 (llp 8 (llp 9 (llp 10 (llp 11 (llp 12 (llp 13 (llp 14 (llp 15 (llp 16 (llp 17 (llp 18 (llp 19 (llp 20 (llp 21 (llp 22 ll0))))))))))))))))))))))) (by kernel_rfl) rfl (by kernel_rfl) ?_
      all_goals (iterate 3 refine go1l ?_)
      all_goals (first | refine go1l ?_ | ((refine sl_split 126 (fun h => ?_) (fun h => ?_)) <;> (try (exfalso; first | contradiction | omega | exact h Iff.rfl)) <;> refine go1l ?_))
      all_goals (first | refine go1l ?_ | ((refine sl_split 126 (fun h => ?_) (fun h => ?_)) <;> (try (exfalso; first | contradiction | omega | exact h Iff.rfl)) <;> refine go1l ?_))
      all_goals (first | refine go1l ?_ | ((refine sl_split 126 (fun h => ?_) (fun h => ?_)) <;> (try (exfalso; first | contradiction | omega | exact h Iff.rfl)) <;> refine go1l ?_))
      all_goals (first | refine go1l ?_ | ((refine sl_split 126 (fun h => ?_) (fun h => ?_)) <;> (try (exfalso; first | contradiction | omega | exact h Iff.rfl)) <;> refine go1l ?_))
      all_goals (first | refine go1l ?_ | ((refine sl_split 126 (fun h => ?_) (fun h => ?_)) <;> (try (exfalso; first | contradiction | omega | exact h Iff.rfl)) <;> refine go1l ?_))
      all_goals (first | refine go1l ?_ | ((refine sl_split 126 (fun h => ?_) (fun h => ?_)) <;> (try (exfalso; first | contradiction | omega | exact h Iff.rfl)) <;> refine go1l ?_))
      all_goals (first | refine go1l ?_ | ((refine sl_split 126 (fun h => ?_) (fun h => ?_)) <;> (try (exfalso; first | contradiction | omega | exact h Iff.rfl)) <;> refine go1l ?_))
      all_goals (first | (first | refine sl_in_g (by omega) ?_ | refine go1l ?_) | ((refine sl_split 126 (fun h => ?_) (fun h => ?_)) <;> (try (exfalso; first | contradiction | omega | exact h Iff.rfl)) <;> (first | refine sl_in_g (by omega) ?_ | refine go1l ?_)))
      all_goals (first | (first | refine sl_skip ?_ | refine sl_skip_u ?_ | refine sl_take_g (h := runop_idxV (b := b2) (r := t2) ((runsOf pre).length - 1) (by omega)) ?_) | ((refine sl_split 126 (fun h => ?_) (fun h => ?_)) <;> (try (exfalso; first | contradiction | omega | exact h Iff.rfl)) <;> (first | refine sl_skip ?_ | refine sl_skip_u ?_ | refine sl_take_g (h := runop_idxV (b := b2) (r := t2) ((runsOf pre).length - 1) (by omega)) ?_)))
      all_goals (first | (first | refine sl_skip ?_ | refine sl_skip_u ?_ | refine sl_take_g (h := runop_loadAt (.int .i64 lst) hlv) ?_) | ((refine sl_split 126 (fun h => ?_) (fun h => ?_)) <;> (try (exfalso; first | contradiction | omega | exact h Iff.rfl)) <;> (first | refine sl_skip ?_ | refine sl_skip_u ?_ | refine sl_take_g (h := runop_loadAt (.int .i64 lst) hlv) ?_)))
      all_goals (first | refine go1l ?_ | ((refine sl_split 126 (fun h => ?_) (fun h => ?_)) <;> (try (exfalso; first | contradiction | omega | exact h Iff.rfl)) <;> refine go1l ?_))
      all_goals (first | refine go1l ?_ | ((refine sl_split 126 (fun h => ?_) (fun h => ?_)) <;> (try (exfalso; first | contradiction | omega | exact h Iff.rfl)) <;> refine go1l ?_))
      all_goals refine go1l ?_
      all_goals (first | refine go1l ?_ | ((refine sl_split 139 (fun h => ?_) (fun h => ?_)) <;> (try (exfalso; first | contradiction | omega | exact h Iff.rfl)) <;> refine go1l ?_))
      all_goals (first | refine go1l ?_ | ((refine sl_split 139 (fun h => ?_) (fun h => ?_)) <;> (try (exfalso; first | contradiction | omega | exact h Iff.rfl)) <;> refine go1l ?_))
      all_goals (first | refine go1l ?_ | ((refine sl_split 139 (fun h => ?_) (fun h => ?_)) <;> (try (exfalso; first | contradiction | omega | exact h Iff.rfl)) <;> refine go1l ?_))
      all_goals (first | refine go1l ?_ | ((refine sl_split 139 (fun h => ?_) (fun h => ?_)) <;> (try (exfalso; first | contradiction | omega | exact h Iff.rfl)) <;> refine go1l ?_))
      all_goals (first | (first | refine sl_in_g (by omega) ?_ | refine go1l ?_) | ((refine sl_split 139 (fun h => ?_) (fun h => ?_)) <;> (try (exfalso; first | contradiction | omega | exact h Iff.rfl)) <;> (first | refine sl_in_g (by omega) ?_ | refine go1l ?_)))
      all_goals (first | refine go1l ?_ | ((refine sl_split 139 (fun h => ?_) (fun h => ?_)) <;> (try (exfalso; first | contradiction | omega | exact h Iff.rfl)) <;> refine go1l ?_))
      all_goals (first | refine go1l ?_ | ((refine sl_split 139 (fun h => ?_) (fun h => ?_)) <;> (try (exfalso; first | contradiction | omega | exact h Iff.rfl)) <;> refine go1l ?_))
      all_goals refine sl_done ?_
      all_goals repeat' (first | with_reducible (first | refine go1 ?_ | refine sct ?_ | refine scf ?_ | refine sgr ?_) | (with_reducible refine sc_cond (fun h => ?_) (fun h => ?_)) <;> (try (exfalso; first | contradiction | omega | exact h Iff.rfl)) | fail)
      · have hbk : (⟨ok, q, run, began, data⟩ : Fnd).brk (runsOf pre) := ⟨hpos, by rw [hgl]; assumption, by assumption⟩
        rcases o1 with _ | ⟨b1, t1⟩
        · have := ho1 rfl
          rw [this] at hrl
          simp only [List.length_nil] at hrl
          omega
        rw [vG_some]
        have hK : (max 0 (began - m.sector * 482)).toNat ≤ (rowOf pre).length := by omega
        refine sc_lin ([(bv, pts bv (.cells [.pointer (some ⟨p, 0, none⟩)].toArray 61 (0, 0))), (p, cellF p 5 (.int .i64 m.sector)), (b15, pts b15 (.cells [Value.bool ok, .int .i64 q, .int .i64 run, .int .i64 began, .slice a data.length c'].toArray 117 (0, 0)))]) (llp 0 (llp 1 (llp 2 (llp 3 (llp 5 (llp 6 (llp 7 (llp 8 (llp 9 (llp 10 (llp 11 (llp 12 (llp 13 (lle 4 (llp 14 (llp 15 (llp 16 (lle 17 ll0)))))))))))))))))) (by kernel_rfl) rfl (by kernel_rfl) ?_
        all_goals (iterate 9 refine go1l ?_)
        all_goals refine sl_take (h := runop_loadCell (.int .i64 m.sector)) ?_
        all_goals (first | refine sl_in (by omega) ?_ | refine go1l ?_)
        all_goals (first | refine sl_in (by omega) ?_ | refine go1l ?_)
        all_goals refine go1l ?_
        all_goals refine sl_eff ?_
        all_goals (repeat' (first | with_reducible (first | refine go1 ?_ | refine sct ?_ | refine scf ?_ | refine sgr ?_) | with_reducible refine sw_store ?_ | with_reducible refine sl_back ?_ | fail))
        all_goals refine sl_take (h := runop_cutV (kd := .u8) (rowOf pre) (max 0 (began - m.sector * 482)).toNat ⟨by split <;> omega, hK⟩) ?_
        all_goals (iterate 2 refine go1l ?_)
        all_goals refine sl_eff ?_
        all_goals (repeat' (first | with_reducible (first | refine go1 ?_ | refine sct ?_ | refine scf ?_ | refine sgr ?_) | with_reducible refine sw_store ?_ | with_reducible refine sl_back ?_ | fail))
        all_goals refine sl_done ?_
        repeat' (first | with_reducible (first | refine go1 ?_ | refine sct ?_ | refine scf ?_ | refine sgr ?_) | fail)
        refine sq_rEnd_exit ?_
        rw [onlyExit_eq]
        have hc := ORow.close (p := p) (mk := fun vr vu => lobj pd f n ra 0 m.sector vr vu m (.slice none 0 0) 0 0 false) (row := (rowOf pre).take (max 0 (began - m.sector * 482)).toNat) (runs := runsOf pre) (o1 := some (b1, ((rowOf pre).drop (max 0 (began - m.sector * 482)).toNat).map (Value.int .u8) ++ t1)) (o2 := some (b2, t2)) (F := (bv, pts bv (.cells [.pointer (some ⟨p, 0, none⟩)].toArray 61 (0, 0))) :: (bm, pts bm (mobj m)) :: (7001, Bag (fbag ms)) :: (pd, DISK pd s) :: (F ++ F'))
          (fun h => (by cases h)) ⟨fun h => (by cases h), fun h => (by rw [h] at hpos; simp at hpos)⟩
        refine Ent.trans ?_ (Ent.trans hc (Ent.head fun h hh => ⟨((rowOf pre).take (max 0 (began - m.sector * 482)).toNat, runsOf pre), fun rest => hrun.brk hbk rest, hh⟩))
        have hcut : ((rowOf pre).take (max 0 (began - m.sector * 482)).toNat).map (Value.int .u8) ++ (((rowOf pre).drop (max 0 (began - m.sector * 482)).toNat).map (Value.int .u8) ++ t1) = (rowOf pre).map (Value.int .u8) ++ t1 := by
          rw [← List.append_assoc, ← List.map_append, List.take_append_drop]
        rw [vG_some, vG_some, hcut]
        repeat' (first | with_reducible exact Ent.refl _ | with_reducible refine Ent.take_eq ?_ ?_ | rfl | with_reducible refine Ent.oR ?_ | with_reducible refine Ent.trans (Ent.drop _ _) ?_)
      · have hnb : ¬ (⟨ok, q, run, began, data⟩ : Fnd).brk (runsOf pre) := fun h => by
          obtain ⟨h1, h2, h3⟩ := h
          rw [hgl] at h2
          simp only at h2 h3
          omega
        -- some (b2, t2): the runs' buffer
        refine sc_lin ([(bv, pts bv (.cells [.pointer (some ⟨p, 0, none⟩)].toArray 61 (0, 0))), (b15, pts b15 (.cells [Value.bool ok, .int .i64 q, .int .i64 run, .int .i64 began, .slice a data.length c'].toArray 117 (0, 0)))]) (llp 0 (llp 1 (llp 2 (llp 3 (llp 5 (llp 6 (lle 4 (lle 7 (llp 8 (llp 9 (lle 10 ll0))))))))))) (by kernel_rfl) rfl (by kernel_rfl) ?_
        all_goals (iterate 6 refine go1l ?_)
        all_goals refine sl_eff ?_
        all_goals (repeat' (first | with_reducible (first | refine go1 ?_ | refine sct ?_ | refine scf ?_ | refine sgr ?_) | with_reducible refine sw_store ?_ | with_reducible refine sw_appendV (kd := .u8) (rowOf pre) data o1 ho1 (bag_src (k := 7001) hfm) ⟨rfl, by omega, by omega⟩ fun o1' ho1' => ?_ | with_reducible refine sl_back ?_ | fail))
        all_goals refine sl_eff ?_
        all_goals (repeat' (first | with_reducible (first | refine go1 ?_ | refine sct ?_ | refine scf ?_ | refine sgr ?_) | with_reducible refine sw_store ?_ | with_reducible refine sw_appendV (kd := .u8) (rowOf pre) data o1 ho1 (bag_src (k := 7001) hfm) ⟨rfl, by omega, by omega⟩ fun o1' ho1' => ?_ | with_reducible refine sl_back ?_ | fail))
        all_goals (iterate 2 refine go1l ?_)
        all_goals refine sl_eff ?_
        all_goals (repeat' (first | with_reducible (first | refine go1 ?_ | refine sct ?_ | refine scf ?_ | refine sgr ?_) | with_reducible refine sw_store ?_ | with_reducible refine sw_appendV (kd := .u8) (rowOf pre) data o1 ho1 (bag_src (k := 7001) hfm) ⟨rfl, by omega, by omega⟩ fun o1' ho1' => ?_ | with_reducible refine sl_back ?_ | fail))
        all_goals refine sl_done ?_
        repeat' (first | with_reducible (first | refine go1 ?_ | refine sct ?_ | refine scf ?_ | refine sgr ?_) | fail)
        refine sc_drawCH (m := 12) ([(bv, pts bv (.cells [.pointer (some ⟨p, 0, none⟩)].toArray 61 (0, 0))), (b15, pts b15 (.cells [Value.bool ok, .int .i64 q, .int .i64 run, .int .i64 began, .slice a data.length c'].toArray 117 (0, 0)))]) CalmC.out (by kernel_rfl) rfl (fun hcalm => ?_)
        all_goals (first | refine sh_take 0 hcalm rfl (by kernel_rfl) (by kernel_rfl) (by kernel_rfl) ?_)
        all_goals (first | refine sh_take 1 hcalm rfl (by kernel_rfl) (by kernel_rfl) (by kernel_rfl) ?_)
        all_goals (first | refine sh_take 2 hcalm rfl (by kernel_rfl) (by kernel_rfl) (by kernel_rfl) ?_)
        all_goals (first | refine sh_take 3 hcalm rfl (by kernel_rfl) (by kernel_rfl) (by kernel_rfl) ?_)
        all_goals (first | refine sh_take 5 hcalm rfl (by kernel_rfl) (by kernel_rfl) (by kernel_rfl) ?_)
        all_goals (first | refine sh_take 6 hcalm rfl (by kernel_rfl) (by kernel_rfl) (by kernel_rfl) ?_)
        refine sh_two 4 7 rfl rfl (by kernel_rfl) rfl ?g2a ?g2b
        case' g2a =>
          all_goals (repeat' (first | with_reducible (first | refine go1 ?_ | refine sct ?_ | refine scf ?_ | refine sgr ?_) | with_reducible refine sw_store ?_ | with_reducible refine sw_buildSlice [Value.int .i64 run] (by omega) rfl fun b7 => ?_ | with_reducible refine sw_appendV1 (kd := .i64) (b7 := b7) (runsOf pre) run (some (b2, t2)) (fun h => ho2.1 h) ⟨by omega, by omega⟩ fun o2' ho2' => ?_ | with_reducible refine sh_back ?_ | fail))
          all_goals (refine sh_one 7 rfl (by kernel_rfl) rfl ?_)
          all_goals (repeat' (first | with_reducible (first | refine go1 ?_ | refine sct ?_ | refine scf ?_ | refine sgr ?_) | with_reducible refine sw_store ?_ | with_reducible refine sw_buildSlice [Value.int .i64 run] (by omega) rfl fun b7 => ?_ | with_reducible refine sw_appendV1 (kd := .i64) (b7 := b7) (runsOf pre) run (some (b2, t2)) (fun h => ho2.1 h) ⟨by omega, by omega⟩ fun o2' ho2' => ?_ | with_reducible refine sh_back ?_ | fail))
          all_goals (refine sh_one 8 rfl (by kernel_rfl) rfl ?_)
          all_goals (repeat' (first | with_reducible (first | refine go1 ?_ | refine sct ?_ | refine scf ?_ | refine sgr ?_) | with_reducible refine sw_store ?_ | with_reducible refine sw_buildSlice [Value.int .i64 run] (by omega) rfl fun b7 => ?_ | with_reducible refine sw_appendV1 (kd := .i64) (b7 := b7) (runsOf pre) run (some (b2, t2)) (fun h => ho2.1 h) ⟨by omega, by omega⟩ fun o2' ho2' => ?_ | with_reducible refine sh_back ?_ | fail))
          all_goals (first | refine sh_take 9 hcalm rfl (by kernel_rfl) (by kernel_rfl) (by kernel_rfl) ?_)
          all_goals (first | refine sh_take 10 hcalm rfl (by kernel_rfl) (by kernel_rfl) (by kernel_rfl) ?_)
          all_goals (refine sh_one 11 rfl (by kernel_rfl) rfl ?_)
          all_goals (repeat' (first | with_reducible (first | refine go1 ?_ | refine sct ?_ | refine scf ?_ | refine sgr ?_) | with_reducible refine sw_store ?_ | with_reducible refine sw_buildSlice [Value.int .i64 run] (by omega) rfl fun b7 => ?_ | with_reducible refine sw_appendV1 (kd := .i64) (b7 := b7) (runsOf pre) run (some (b2, t2)) (fun h => ho2.1 h) ⟨by omega, by omega⟩ fun o2' ho2' => ?_ | with_reducible refine sh_back ?_ | fail))
          all_goals (refine sh_done (by kernel_rfl) rfl ?_)
        case' g2b =>
          all_goals (repeat' (first | with_reducible (first | refine go1 ?_ | refine sct ?_ | refine scf ?_ | refine sgr ?_) | with_reducible refine sw_store ?_ | with_reducible refine sw_buildSlice [Value.int .i64 run] (by omega) rfl fun b7 => ?_ | with_reducible refine sw_appendV1 (kd := .i64) (b7 := b7) (runsOf pre) run (some (b2, t2)) (fun h => ho2.1 h) ⟨by omega, by omega⟩ fun o2' ho2' => ?_ | with_reducible refine sh_back ?_ | fail))
          all_goals (refine sh_one 4 rfl (by kernel_rfl) rfl ?_)
          all_goals (repeat' (first | with_reducible (first | refine go1 ?_ | refine sct ?_ | refine scf ?_ | refine sgr ?_) | with_reducible refine sw_store ?_ | with_reducible refine sw_buildSlice [Value.int .i64 run] (by omega) rfl fun b7 => ?_ | with_reducible refine sw_appendV1 (kd := .i64) (b7 := b7) (runsOf pre) run (some (b2, t2)) (fun h => ho2.1 h) ⟨by omega, by omega⟩ fun o2' ho2' => ?_ | with_reducible refine sh_back ?_ | fail))
          all_goals (refine sh_one 8 rfl (by kernel_rfl) rfl ?_)
          all_goals (repeat' (first | with_reducible (first | refine go1 ?_ | refine sct ?_ | refine scf ?_ | refine sgr ?_) | with_reducible refine sw_store ?_ | with_reducible refine sw_buildSlice [Value.int .i64 run] (by omega) rfl fun b7 => ?_ | with_reducible refine sw_appendV1 (kd := .i64) (b7 := b7) (runsOf pre) run (some (b2, t2)) (fun h => ho2.1 h) ⟨by omega, by omega⟩ fun o2' ho2' => ?_ | with_reducible refine sh_back ?_ | fail))
          all_goals (first | refine sh_take 9 hcalm rfl (by kernel_rfl) (by kernel_rfl) (by kernel_rfl) ?_)
          all_goals (first | refine sh_take 10 hcalm rfl (by kernel_rfl) (by kernel_rfl) (by kernel_rfl) ?_)
          all_goals (refine sh_one 11 rfl (by kernel_rfl) rfl ?_)
          all_goals (repeat' (first | with_reducible (first | refine go1 ?_ | refine sct ?_ | refine scf ?_ | refine sgr ?_) | with_reducible refine sw_store ?_ | with_reducible refine sw_buildSlice [Value.int .i64 run] (by omega) rfl fun b7 => ?_ | with_reducible refine sw_appendV1 (kd := .i64) (b7 := b7) (runsOf pre) run (some (b2, t2)) (fun h => ho2.1 h) ⟨by omega, by omega⟩ fun o2' ho2' => ?_ | with_reducible refine sh_back ?_ | fail))
          all_goals (refine sh_done (by kernel_rfl) rfl ?_)
        all_goals
          repeat' (first | with_reducible (first | refine go1 ?_ | refine sct ?_ | refine scf ?_ | refine sgr ?_) | fail)
          refine sq_rEnd ?_
          have hrow := rowOf_snoc pre ((⟨ok, q, run, began, data⟩ : Fnd), Value.slice a data.length c')
          have hruns := runsOf_snoc pre ((⟨ok, q, run, began, data⟩ : Fnd), Value.slice a data.length c')
          simp only at hrow hruns
          have hc := ORow.close (p := p) (mk := fun vr vu => lobj pd f n ra 0 m.sector vr vu m (.slice none 0 0) 0 0 false) (row := rowOf (pre ++ [((⟨ok, q, run, began, data⟩ : Fnd), Value.slice a data.length c')])) (runs := runsOf (pre ++ [((⟨ok, q, run, began, data⟩ : Fnd), Value.slice a data.length c')])) (o1 := o1') (o2 := o2') (F := (bv, pts bv (.cells [.pointer (some ⟨p, 0, none⟩)].toArray 61 (0, 0))) :: (bm, pts bm (mobj m)) :: (7001, Bag (fbag ms)) :: (pd, DISK pd s) :: (F ++ F'))
            (fun h => by rw [hrow, ho1 (ho1'.1 h).1, (ho1'.1 h).2]; rfl) ⟨fun h => absurd h ho2', fun h => by rw [hruns] at h; simp at h⟩
          refine Ent.trans ?_ (Ent.trans hc (Ent.head fun h hh => ⟨hrun.snoc hnb, hh⟩))
          rw [hrow, hruns]
          repeat' (first | with_reducible exact Ent.refl _ | with_reducible refine Ent.take_eq ?_ ?_ | rfl | with_reducible refine Ent.oR ?_ | with_reducible refine Ent.trans (Ent.drop _ _) ?_)
      · have hnb : ¬ (⟨ok, q, run, began, data⟩ : Fnd).brk (runsOf pre) := fun h => by
          obtain ⟨h1, h2, h3⟩ := h
          rw [hgl] at h2
          simp only at h2 h3
          omega
        -- some (b2, t2): the runs' buffer
        refine sc_lin ([(bv, pts bv (.cells [.pointer (some ⟨p, 0, none⟩)].toArray 61 (0, 0))), (b15, pts b15 (.cells [Value.bool ok, .int .i64 q, .int .i64 run, .int .i64 began, .slice a data.length c'].toArray 117 (0, 0)))]) (llp 0 (llp 1 (llp 2 (llp 3 (llp 5 (llp 6 (lle 4 (lle 7 (llp 8 (llp 9 (lle 10 ll0))))))))))) (by kernel_rfl) rfl (by kernel_rfl) ?_
        all_goals (iterate 6 refine go1l ?_)
        all_goals refine sl_eff ?_
        all_goals (repeat' (first | with_reducible (first | refine go1 ?_ | refine sct ?_ | refine scf ?_ | refine sgr ?_) | with_reducible refine sw_store ?_ | with_reducible refine sw_appendV (kd := .u8) (rowOf pre) data o1 ho1 (bag_src (k := 7001) hfm) ⟨rfl, by omega, by omega⟩ fun o1' ho1' => ?_ | with_reducible refine sl_back ?_ | fail))
        all_goals refine sl_eff ?_
        all_goals (repeat' (first | with_reducible (first | refine go1 ?_ | refine sct ?_ | refine scf ?_ | refine sgr ?_) | with_reducible refine sw_store ?_ | with_reducible refine sw_appendV (kd := .u8) (rowOf pre) data o1 ho1 (bag_src (k := 7001) hfm) ⟨rfl, by omega, by omega⟩ fun o1' ho1' => ?_ | with_reducible refine sl_back ?_ | fail))
        all_goals (iterate 2 refine go1l ?_)
        all_goals refine sl_eff ?_
        all_goals (repeat' (first | with_reducible (first | refine go1 ?_ | refine sct ?_ | refine scf ?_ | refine sgr ?_) | with_reducible refine sw_store ?_ | with_reducible refine sw_appendV (kd := .u8) (rowOf pre) data o1 ho1 (bag_src (k := 7001) hfm) ⟨rfl, by omega, by omega⟩ fun o1' ho1' => ?_ | with_reducible refine sl_back ?_ | fail))
        all_goals refine sl_done ?_
        repeat' (first | with_reducible (first | refine go1 ?_ | refine sct ?_ | refine scf ?_ | refine sgr ?_) | fail)
        refine sc_drawCH (m := 12) ([(bv, pts bv (.cells [.pointer (some ⟨p, 0, none⟩)].toArray 61 (0, 0))), (b15, pts b15 (.cells [Value.bool ok, .int .i64 q, .int .i64 run, .int .i64 began, .slice a data.length c'].toArray 117 (0, 0)))]) CalmC.out (by kernel_rfl) rfl (fun hcalm => ?_)
        all_goals (first | refine sh_take 0 hcalm rfl (by kernel_rfl) (by kernel_rfl) (by kernel_rfl) ?_)
        all_goals (first | refine sh_take 1 hcalm rfl (by kernel_rfl) (by kernel_rfl) (by kernel_rfl) ?_)
        all_goals (first | refine sh_take 2 hcalm rfl (by kernel_rfl) (by kernel_rfl) (by kernel_rfl) ?_)
        all_goals (first | refine sh_take 3 hcalm rfl (by kernel_rfl) (by kernel_rfl) (by kernel_rfl) ?_)
        all_goals (first | refine sh_take 5 hcalm rfl (by kernel_rfl) (by kernel_rfl) (by kernel_rfl) ?_)
        all_goals (first | refine sh_take 6 hcalm rfl (by kernel_rfl) (by kernel_rfl) (by kernel_rfl) ?_)
        refine sh_two 4 7 rfl rfl (by kernel_rfl) rfl ?g3a ?g3b
        case' g3a =>
          all_goals (repeat' (first | with_reducible (first | refine go1 ?_ | refine sct ?_ | refine scf ?_ | refine sgr ?_) | with_reducible refine sw_store ?_ | with_reducible refine sw_buildSlice [Value.int .i64 run] (by omega) rfl fun b7 => ?_ | with_reducible refine sw_appendV1 (kd := .i64) (b7 := b7) (runsOf pre) run (some (b2, t2)) (fun h => ho2.1 h) ⟨by omega, by omega⟩ fun o2' ho2' => ?_ | with_reducible refine sh_back ?_ | fail))
          all_goals (refine sh_one 7 rfl (by kernel_rfl) rfl ?_)
          all_goals (repeat' (first | with_reducible (first | refine go1 ?_ | refine sct ?_ | refine scf ?_ | refine sgr ?_) | with_reducible refine sw_store ?_ | with_reducible refine sw_buildSlice [Value.int .i64 run] (by omega) rfl fun b7 => ?_ | with_reducible refine sw_appendV1 (kd := .i64) (b7 := b7) (runsOf pre) run (some (b2, t2)) (fun h => ho2.1 h) ⟨by omega, by omega⟩ fun o2' ho2' => ?_ | with_reducible refine sh_back ?_ | fail))
          all_goals (refine sh_one 8 rfl (by kernel_rfl) rfl ?_)
          all_goals (repeat' (first | with_reducible (first | refine go1 ?_ | refine sct ?_ | refine scf ?_ | refine sgr ?_) | with_reducible refine sw_store ?_ | with_reducible refine sw_buildSlice [Value.int .i64 run] (by omega) rfl fun b7 => ?_ | with_reducible refine sw_appendV1 (kd := .i64) (b7 := b7) (runsOf pre) run (some (b2, t2)) (fun h => ho2.1 h) ⟨by omega, by omega⟩ fun o2' ho2' => ?_ | with_reducible refine sh_back ?_ | fail))
          all_goals (first | refine sh_take 9 hcalm rfl (by kernel_rfl) (by kernel_rfl) (by kernel_rfl) ?_)
          all_goals (first | refine sh_take 10 hcalm rfl (by kernel_rfl) (by kernel_rfl) (by kernel_rfl) ?_)
          all_goals (refine sh_one 11 rfl (by kernel_rfl) rfl ?_)
          all_goals (repeat' (first | with_reducible (first | refine go1 ?_ | refine sct ?_ | refine scf ?_ | refine sgr ?_) | with_reducible refine sw_store ?_ | with_reducible refine sw_buildSlice [Value.int .i64 run] (by omega) rfl fun b7 => ?_ | with_reducible refine sw_appendV1 (kd := .i64) (b7 := b7) (runsOf pre) run (some (b2, t2)) (fun h => ho2.1 h) ⟨by omega, by omega⟩ fun o2' ho2' => ?_ | with_reducible refine sh_back ?_ | fail))
          all_goals (refine sh_done (by kernel_rfl) rfl ?_)
        case' g3b =>
          all_goals (repeat' (first | with_reducible (first | refine go1 ?_ | refine sct ?_ | refine scf ?_ | refine sgr ?_) | with_reducible refine sw_store ?_ | with_reducible refine sw_buildSlice [Value.int .i64 run] (by omega) rfl fun b7 => ?_ | with_reducible refine sw_appendV1 (kd := .i64) (b7 := b7) (runsOf pre) run (some (b2, t2)) (fun h => ho2.1 h) ⟨by omega, by omega⟩ fun o2' ho2' => ?_ | with_reducible refine sh_back ?_ | fail))
          all_goals (refine sh_one 4 rfl (by kernel_rfl) rfl ?_)
          all_goals (repeat' (first | with_reducible (first | refine go1 ?_ | refine sct ?_ | refine scf ?_ | refine sgr ?_) | with_reducible refine sw_store ?_ | with_reducible refine sw_buildSlice [Value.int .i64 run] (by omega) rfl fun b7 => ?_ | with_reducible refine sw_appendV1 (kd := .i64) (b7 := b7) (runsOf pre) run (some (b2, t2)) (fun h => ho2.1 h) ⟨by omega, by omega⟩ fun o2' ho2' => ?_ | with_reducible refine sh_back ?_ | fail))
          all_goals (refine sh_one 8 rfl (by kernel_rfl) rfl ?_)
          all_goals (repeat' (first | with_reducible (first | refine go1 ?_ | refine sct ?_ | refine scf ?_ | refine sgr ?_) | with_reducible refine sw_store ?_ | with_reducible refine sw_buildSlice [Value.int .i64 run] (by omega) rfl fun b7 => ?_ | with_reducible refine sw_appendV1 (kd := .i64) (b7 := b7) (runsOf pre) run (some (b2, t2)) (fun h => ho2.1 h) ⟨by omega, by omega⟩ fun o2' ho2' => ?_ | with_reducible refine sh_back ?_ | fail))
          all_goals (first | refine sh_take 9 hcalm rfl (by kernel_rfl) (by kernel_rfl) (by kernel_rfl) ?_)
          all_goals (first | refine sh_take 10 hcalm rfl (by kernel_rfl) (by kernel_rfl) (by kernel_rfl) ?_)
          all_goals (refine sh_one 11 rfl (by kernel_rfl) rfl ?_)
          all_goals (repeat' (first | with_reducible (first | refine go1 ?_ | refine sct ?_ | refine scf ?_ | refine sgr ?_) | with_reducible refine sw_store ?_ | with_reducible refine sw_buildSlice [Value.int .i64 run] (by omega) rfl fun b7 => ?_ | with_reducible refine sw_appendV1 (kd := .i64) (b7 := b7) (runsOf pre) run (some (b2, t2)) (fun h => ho2.1 h) ⟨by omega, by omega⟩ fun o2' ho2' => ?_ | with_reducible refine sh_back ?_ | fail))
          all_goals (refine sh_done (by kernel_rfl) rfl ?_)
        all_goals
          repeat' (first | with_reducible (first | refine go1 ?_ | refine sct ?_ | refine scf ?_ | refine sgr ?_) | fail)
          refine sq_rEnd ?_
          have hrow := rowOf_snoc pre ((⟨ok, q, run, began, data⟩ : Fnd), Value.slice a data.length c')
          have hruns := runsOf_snoc pre ((⟨ok, q, run, began, data⟩ : Fnd), Value.slice a data.length c')
          simp only at hrow hruns
          have hc := ORow.close (p := p) (mk := fun vr vu => lobj pd f n ra 0 m.sector vr vu m (.slice none 0 0) 0 0 false) (row := rowOf (pre ++ [((⟨ok, q, run, began, data⟩ : Fnd), Value.slice a data.length c')])) (runs := runsOf (pre ++ [((⟨ok, q, run, began, data⟩ : Fnd), Value.slice a data.length c')])) (o1 := o1') (o2 := o2') (F := (bv, pts bv (.cells [.pointer (some ⟨p, 0, none⟩)].toArray 61 (0, 0))) :: (bm, pts bm (mobj m)) :: (7001, Bag (fbag ms)) :: (pd, DISK pd s) :: (F ++ F'))
            (fun h => by rw [hrow, ho1 (ho1'.1 h).1, (ho1'.1 h).2]; rfl) ⟨fun h => absurd h ho2', fun h => by rw [hruns] at h; simp at h⟩
          refine Ent.trans ?_ (Ent.trans hc (Ent.head fun h hh => ⟨hrun.snoc hnb, hh⟩))
          rw [hrow, hruns]
          repeat' (first | with_reducible exact Ent.refl _ | with_reducible refine Ent.take_eq ?_ ?_ | rfl | with_reducible refine Ent.oR ?_ | with_reducible refine Ent.trans (Ent.drop _ _) ?_)
  · intro xs hxs
    subst hxs
    simp only [List.zip_cons_cons, List.zip_nil_left, List.cons_append, List.nil_append]
    refine Ent.take (k := 7003) (fun h hh => ?_) (by repeat' (first | with_reducible exact Ent.refl _ | with_reducible refine Ent.take_eq ?_ ?_ | rfl | with_reducible refine Ent.oR ?_ | with_reducible refine Ent.trans (Ent.drop _ _) ?_))
    obtain ⟨hr, hh⟩ := hh
    have := hr []
    rw [List.append_nil] at this
    rw [this]
    exact hh
  · intro pre x hN
    simp only [List.zip_cons_cons, List.zip_nil_left, List.cons_append, List.nil_append]
    refine Ent.take (k := 7003) (fun h hh => ?_) (by repeat' (first | with_reducible exact Ent.refl _ | with_reducible refine Ent.take_eq ?_ ?_ | rfl | with_reducible refine Ent.oR ?_ | with_reducible refine Ent.trans (Ent.drop _ _) ?_))
    obtain ⟨rr, hr, hh⟩ := hh
    have h1 : all = pre ++ [x] ++ all.drop (pre.length + 1) := by
      conv => lhs; rw [← List.take_append_drop (pre.length + 1) all, List.take_add_one, ← hN.2, hN.1]
      rfl
    have := hr ((all.drop (pre.length + 1)).map Prod.fst)
    rw [← List.map_append, ← h1] at this
    rw [this]
    exact hh
  intro rx
  have hfl : ∀ x ∈ all.map Prod.fst, x.Wf := by
    intro x hx
    obtain ⟨y, hy, rfl⟩ := List.mem_map.1 hx
    obtain ⟨j, hj, rfl⟩ := List.mem_iff_getElem.1 hy
    have h1 : (flw ms m.sector ms.length 0 m.run)[j]? = some all[j] := by rw [← hall]; exact List.getElem?_eq_getElem hj
    exact hfw _ (flw_get h1).2.1
  have hall2 : all.length ≤ n := by
    have := flw_len (ms := ms) (seq := m.sector) (k := ms.length) (i := 0) (last := m.run)
    rw [← hall] at this
    omega
  have hrri := rowF_in (base := m.sector) (xs := all.map Prod.fst) (row := []) (runs := []) hfl (fun x hx => by cases hx) (fun x hx => by cases hx)
  rw [List.length_map] at hrri
  simp only [List.length_nil, Nat.zero_add] at hrri
  have hrai := runF_in hfs (r := 1) (by omega)
  rw [hra] at hrai
  clear hfl hfs hfw hit hsl
  generalize hrr : rowF m.sector (all.map Prod.fst) [] [] = rr at *
  obtain ⟨row, runs⟩ := rr
  simp only at hrri ⊢
  obtain ⟨hrl, hul, hrb, hub⟩ := hrri
  refine sq_then_m ?_
  refine sc_orow p (fun vr vu => lobj pd f n ra 0 m.sector vr vu m (.slice none 0 0) 0 0 false) row runs fun o1 o2 ho1 ho2 => ?_
  have hl1 : o1 = none → row.length = 0 := fun h => by rw [ho1 h]; rfl
  obtain ⟨off, hoff⟩ : ∃ off : Nat, m.offset = off := ⟨m.offset.toNat, by omega⟩
  have hoff2 : m.offset.toNat = off := by omega
  refine sc_seq ?_
  refine sc_region ?_
  repeat' (first | with_reducible refine sw_op ?_ | with_reducible refine sw_op_ ?_)
  refine sw_nil ?_
  refine sq_then ?_
  refine sc_join (α := { x : List ((Int × List Int) × Value) × Nat × Option (Nat × Nat × List Value) // NOk 2 (rall x.1) x.1.length x.2.2 ∧ x.1.length ≤ x.2.1 ∧ x.2.1 ≤ max off row.length ∧ recF m.sector row row.length off [] = (x.1.map Prod.fst, x.2.1) })
    (fun x => [(7, .pointer (some ⟨bm, 0, none⟩)), (12, .pointer (some ⟨bv, 0, none⟩)), (17, .int .i64 (x.1.2.1 : Int))])
    (fun x => (p, pts p (lobj pd f n ra 0 m.sector (bufV row.length o1) (bufV runs.length o2) m (nV x.1.1.length x.1.2.2) 0 0 false)) :: oR (rG row) (oR (iG runs) (oR (nG 122 (rall x.1.1)) ((7002, Bag (rbag x.1.1)) :: (rx, defers0 rx) :: (bv, pts bv (.cells [.pointer (some ⟨p, 0, none⟩)].toArray 61 (0, 0))) :: (bm, pts bm (mobj m)) :: (pd, DISK pd s) :: F) x.1.2.2) o2) o1) ?_ ?_
  · refine sc_block ?_
    refine sc_ent (Ent.dup_take (k := 7001) (k' := 7002) (r' := Bag (rbag [])) fun _ _ => Bag.nil _) ?_
    refine sc_loop (α := { x : List ((Int × List Int) × Value) × Nat × Option (Nat × Nat × List Value) // NOk 2 (rall x.1) x.1.length x.2.2 ∧ x.1.length ≤ x.2.1 ∧ x.2.1 ≤ max off row.length ∧ ∃ k, row.length ≤ x.2.1 + k ∧ recF m.sector row row.length off [] = recF m.sector row k x.2.1 (x.1.map Prod.fst) })
      (fun x => [(7, .pointer (some ⟨bm, 0, none⟩)), (12, .pointer (some ⟨bv, 0, none⟩)), (17, .int .i64 (x.1.2.1 : Int))])
      (fun x => (p, pts p (lobj pd f n ra 0 m.sector (bufV row.length o1) (bufV runs.length o2) m (nV x.1.1.length x.1.2.2) 0 0 false)) :: oR (rG row) (oR (iG runs) (oR (nG 122 (rall x.1.1)) ((7002, Bag (rbag x.1.1)) :: (rx, defers0 rx) :: (bv, pts bv (.cells [.pointer (some ⟨p, 0, none⟩)].toArray 61 (0, 0))) :: (bm, pts bm (mobj m)) :: (pd, DISK pd s) :: F) x.1.2.2) o2) o1) (fun x => row.length - x.1.2.1)
      ⟨([], off, none), ⟨rfl, fun _ => ⟨rfl, rfl⟩, fun b c t h => (by cases h)⟩, Nat.zero_le _, Nat.le_max_left _ _, row.length, by omega, rfl⟩ ?_ ?_ ?_
    · rw [hoff]
      repeat' (first | exact says_nil | refine says_cons rfl ?_ | refine says_cons (by simp) ?_)
    · dsimp only
      rw [nG_none]
      repeat' (first | with_reducible exact Ent.refl _ | with_reducible refine Ent.take_eq ?_ ?_ | rfl | with_reducible refine Ent.oR ?_ | with_reducible refine Ent.trans (Ent.drop _ _) ?_)
    rintro ⟨⟨rs, at', o3⟩, hNO, hrsl, hatl, k, hk, hrec⟩ e
    (try simp only at hNO hrsl hatl hrec hk)
    simp only [List.cons_append, List.nil_append]
    repeat' (first | with_reducible (first | refine go1 ?_ | refine sct ?_ | refine scf ?_ | refine sgr ?_) | fail)
    refine sw_op (h := runop_lenV o1 hl1) ?_
    repeat' (first | with_reducible (first | refine go1 ?_ | refine sct ?_ | refine scf ?_ | refine sgr ?_) | (with_reducible refine sc_cond (fun h => ?_) (fun h => ?_)) <;> (try (exfalso; first | contradiction | omega | exact h Iff.rfl)) | fail)
    · have hlt : at' < row.length := by omega
      obtain ⟨k, rfl⟩ : ∃ k', k = k' + 1 := ⟨k - 1, by omega⟩
      rw [recF, if_neg (by omega)] at hrec
      rcases o1 with _ | ⟨b1, t1⟩
      · have := hl1 rfl
        omega
      rw [vG_some]
      have hbd : Byt (row.drop at') := hrb.dr at'
      have hrd : Reads (pts b1 (.cells (row.map (Value.int .u8) ++ t1).toArray 5 (0, 0))) (some ⟨b1, 0, none⟩) (row.map (Value.int .u8)) := reads_pts fun j v hj => by rw [Nat.zero_add, List.getElem?_append_left (List.getElem?_eq_some_iff.1 hj).1]; exact hj
      have htl := RdB.tail (c := row.length + t1.length) (Nat.le_add_right _ _) hrd at' (by omega)
      simp only [bufV]
      refine sw_slice at' row.length (row.length + t1.length) (if row.length + t1.length = at' then 0 else 0 + at') (by omega) ⟨rfl, rfl, rfl, rfl⟩ ?_
      repeat' (first | with_reducible (first | refine go1 ?_ | refine sct ?_ | refine scf ?_ | refine sgr ?_) | fail)
      refine sw_call (cUnframe_ok b1 _ _ (row.drop at') htl hbd (by rw [List.length_drop]; omega)) ?_
      rintro _ _ (⟨hu, rfl, rfl⟩ | ⟨hu, b6, t6, rfl, rfl⟩)
      · rw [if_pos (.inl hu)] at hrec
        repeat' (first | with_reducible (first | refine go1 ?_ | refine sct ?_ | refine scf ?_ | refine sgr ?_) | with_reducible refine sw_guard_skip_u ?_ | (with_reducible refine sw_guard_split (fun h => ?_) (fun h => ?_)) <;> (try (exfalso; first | contradiction | omega | exact h Iff.rfl)) | (with_reducible refine sc_cond (fun h => ?_) (fun h => ?_)) <;> (try (exfalso; first | contradiction | omega | exact h Iff.rfl)) | (with_reducible refine sw_pick (fun h => ?_) (fun h => ?_)) <;> (try (exfalso; first | contradiction | omega | exact h Iff.rfl)) | fail)
        refine sq_join ⟨(rs, at', o3), hNO, hrsl, hatl, hrec⟩ ?_ ?_
        · repeat' (first | exact says_nil | refine says_cons rfl ?_ | refine says_cons (by simp) ?_)
        · dsimp only
          repeat' (first | with_reducible exact Ent.refl _ | with_reducible refine Ent.take_eq ?_ ?_ | rfl | with_reducible refine Ent.oR ?_ | with_reducible refine Ent.trans (Ent.drop _ _) ?_)
      · have hue := unfr_end hbd hu
        rw [List.length_drop] at hue
        repeat' (first | with_reducible (first | refine go1 ?_ | refine sct ?_ | refine scf ?_ | refine sgr ?_) | with_reducible refine sw_guard_skip_u ?_ | (with_reducible refine sw_guard_split (fun h => ?_) (fun h => ?_)) <;> (try (exfalso; first | contradiction | omega | exact h Iff.rfl)) | (with_reducible refine sc_cond (fun h => ?_) (fun h => ?_)) <;> (try (exfalso; first | contradiction | omega | exact h Iff.rfl)) | (with_reducible refine sw_pick (fun h => ?_) (fun h => ?_)) <;> (try (exfalso; first | contradiction | omega | exact h Iff.rfl)) | fail)
        · rw [if_pos (.inr (by omega))] at hrec
          refine sq_join ⟨(rs, at', o3), hNO, hrsl, hatl, hrec⟩ ?_ ?_
          · repeat' (first | exact says_nil | refine says_cons rfl ?_ | refine says_cons (by simp) ?_)
          · dsimp only
            repeat' (first | with_reducible exact Ent.refl _ | with_reducible refine Ent.take_eq ?_ ?_ | rfl | with_reducible refine Ent.oR ?_ | with_reducible refine Ent.trans (Ent.drop _ _) ?_)
        · rw [if_neg (by omega)] at hrec
          generalize hU : unfr (row.drop at') = U at *
          obtain ⟨u1, ub, ue⟩ := U
          simp only at *
          have hrk : Reads (pts b6 (.cells (ub.map (Value.int .u8) ++ t6).toArray 5 (0, 0))) (some ⟨b6, 0, none⟩) (ub.map (Value.int .u8)) := reads_pts fun j v hj => by rw [Nat.zero_add, List.getElem?_append_left (List.getElem?_eq_some_iff.1 hj).1]; exact hj
          refine sc_drawC (m := 20) ([(bv, pts bv (.cells [.pointer (some ⟨p, 0, none⟩)].toArray 61 (0, 0))), (p, cellF p 5 (.int .i64 m.sector))]) CalmC.out (by kernel_rfl) rfl (fun hcalm => ?_)
          all_goals (first | refine sg_take 0 hcalm rfl (by kernel_rfl) (by kernel_rfl) (by kernel_rfl) ?_)
          all_goals (first | refine sg_take 1 hcalm rfl (by kernel_rfl) (by kernel_rfl) (by kernel_rfl) ?_)
          all_goals (first | refine sg_take 2 hcalm rfl (by kernel_rfl) (by kernel_rfl) (by kernel_rfl) ?_)
          all_goals (first | refine sg_take 3 hcalm rfl (by kernel_rfl) (by kernel_rfl) (by kernel_rfl) ?_)
          all_goals (first | refine sg_take 5 hcalm rfl (by kernel_rfl) (by kernel_rfl) (by kernel_rfl) ?_)
          all_goals (first | refine sg_take 6 hcalm rfl (by kernel_rfl) (by kernel_rfl) (by kernel_rfl) ?_)
          all_goals (first | refine sg_take 7 hcalm rfl (by kernel_rfl) (by kernel_rfl) (by kernel_rfl) ?_)
          all_goals (first | refine sg_take 8 hcalm rfl (by kernel_rfl) (by kernel_rfl) (by kernel_rfl) (h := runop_loadCell (.int .i64 m.sector)) ?_ | refine sg_take 8 hcalm rfl (by kernel_rfl) (by kernel_rfl) (by kernel_rfl) ?_)
          all_goals (first | refine sg_take_as 9 hcalm rfl (by kernel_rfl) (by kernel_rfl) (by kernel_rfl) (by rw [IntWalk.i64_in _ (by omega)]) ?_ | refine sg_take 9 hcalm rfl (by kernel_rfl) (by kernel_rfl) (by kernel_rfl) ?_)
          all_goals (first | refine sg_take 10 hcalm rfl (by kernel_rfl) (by kernel_rfl) (by kernel_rfl) ?_)
          all_goals (first | refine sg_take_as 11 hcalm rfl (by kernel_rfl) (by kernel_rfl) (by kernel_rfl) (by rw [IntWalk.i64_in _ (by omega)]) ?_ | refine sg_take 11 hcalm rfl (by kernel_rfl) (by kernel_rfl) (by kernel_rfl) ?_)
          all_goals (first | refine sg_take 12 hcalm rfl (by kernel_rfl) (by kernel_rfl) (by kernel_rfl) ?_)
          refine sg_two 4 13 rfl rfl (by kernel_rfl) rfl ?g4a ?g4b
          case' g4a =>
            all_goals (repeat' (first | with_reducible (first | refine go1 ?_ | refine sct ?_ | refine scf ?_ | refine sgr ?_) | with_reducible refine sw_store ?_ | ((with_reducible refine sw_call (clB_ok b6 _ _ ub.length (ub.length + t6.length) (ub.map (Value.int .u8)) hrk (one_ints _ _) (by rw [List.length_map]) (by omega)) ?_); rintro _ _ (⟨h0, _⟩ | ⟨_, b8, t8, rfl, rfl⟩); (first | cases h0 | skip)) | with_reducible refine sw_buildSliceN [Value.int .i64 (m.sector * 482 + at'), .slice (some ⟨b8, 0, none⟩) ub.length (ub.length + t8.length)] ⟨by omega, by omega, by omega⟩ (by kernel_rfl) fun b9 => ?_ | with_reducible refine sw_appendNV (b7 := b9) (rall rs) [Value.int .i64 (m.sector * 482 + at'), .slice (some ⟨b8, 0, none⟩) ub.length (ub.length + t8.length)] rs.length o3 hNO (two_one _ _ _ _ _) (by kernel_rfl) (by omega) ⟨two_len _ _, by omega, by omega⟩ fun o3' hn3 hNO' => ?_ | with_reducible refine sg_back ?_ | fail))
            all_goals (refine sg_one 13 rfl (by kernel_rfl) rfl ?_)
            all_goals (repeat' (first | with_reducible (first | refine go1 ?_ | refine sct ?_ | refine scf ?_ | refine sgr ?_) | with_reducible refine sw_store ?_ | ((with_reducible refine sw_call (clB_ok b6 _ _ ub.length (ub.length + t6.length) (ub.map (Value.int .u8)) hrk (one_ints _ _) (by rw [List.length_map]) (by omega)) ?_); rintro _ _ (⟨h0, _⟩ | ⟨_, b8, t8, rfl, rfl⟩); (first | cases h0 | skip)) | with_reducible refine sw_buildSliceN [Value.int .i64 (m.sector * 482 + at'), .slice (some ⟨b8, 0, none⟩) ub.length (ub.length + t8.length)] ⟨by omega, by omega, by omega⟩ (by kernel_rfl) fun b9 => ?_ | with_reducible refine sw_appendNV (b7 := b9) (rall rs) [Value.int .i64 (m.sector * 482 + at'), .slice (some ⟨b8, 0, none⟩) ub.length (ub.length + t8.length)] rs.length o3 hNO (two_one _ _ _ _ _) (by kernel_rfl) (by omega) ⟨two_len _ _, by omega, by omega⟩ fun o3' hn3 hNO' => ?_ | with_reducible refine sg_back ?_ | fail))
            all_goals (first | refine sg_take 14 hcalm rfl (by kernel_rfl) (by kernel_rfl) (by kernel_rfl) (h := runop_buildR [Value.int .i64 (m.sector * 482 + at'), .slice (some ⟨b8, 0, none⟩) ub.length (ub.length + t8.length)] (by kernel_rfl)) ?_ | refine sg_take 14 hcalm rfl (by kernel_rfl) (by kernel_rfl) (by kernel_rfl) ?_)
            all_goals (refine sg_one 15 rfl (by kernel_rfl) rfl ?_)
            all_goals (repeat' (first | with_reducible (first | refine go1 ?_ | refine sct ?_ | refine scf ?_ | refine sgr ?_) | with_reducible refine sw_store ?_ | ((with_reducible refine sw_call (clB_ok b6 _ _ ub.length (ub.length + t6.length) (ub.map (Value.int .u8)) hrk (one_ints _ _) (by rw [List.length_map]) (by omega)) ?_); rintro _ _ (⟨h0, _⟩ | ⟨_, b8, t8, rfl, rfl⟩); (first | cases h0 | skip)) | with_reducible refine sw_buildSliceN [Value.int .i64 (m.sector * 482 + at'), .slice (some ⟨b8, 0, none⟩) ub.length (ub.length + t8.length)] ⟨by omega, by omega, by omega⟩ (by kernel_rfl) fun b9 => ?_ | with_reducible refine sw_appendNV (b7 := b9) (rall rs) [Value.int .i64 (m.sector * 482 + at'), .slice (some ⟨b8, 0, none⟩) ub.length (ub.length + t8.length)] rs.length o3 hNO (two_one _ _ _ _ _) (by kernel_rfl) (by omega) ⟨two_len _ _, by omega, by omega⟩ fun o3' hn3 hNO' => ?_ | with_reducible refine sg_back ?_ | fail))
            all_goals (refine sg_one 16 rfl (by kernel_rfl) rfl ?_)
            all_goals (repeat' (first | with_reducible (first | refine go1 ?_ | refine sct ?_ | refine scf ?_ | refine sgr ?_) | with_reducible refine sw_store ?_ | ((with_reducible refine sw_call (clB_ok b6 _ _ ub.length (ub.length + t6.length) (ub.map (Value.int .u8)) hrk (one_ints _ _) (by rw [List.length_map]) (by omega)) ?_); rintro _ _ (⟨h0, _⟩ | ⟨_, b8, t8, rfl, rfl⟩); (first | cases h0 | skip)) | with_reducible refine sw_buildSliceN [Value.int .i64 (m.sector * 482 + at'), .slice (some ⟨b8, 0, none⟩) ub.length (ub.length + t8.length)] ⟨by omega, by omega, by omega⟩ (by kernel_rfl) fun b9 => ?_ | with_reducible refine sw_appendNV (b7 := b9) (rall rs) [Value.int .i64 (m.sector * 482 + at'), .slice (some ⟨b8, 0, none⟩) ub.length (ub.length + t8.length)] rs.length o3 hNO (two_one _ _ _ _ _) (by kernel_rfl) (by omega) ⟨two_len _ _, by omega, by omega⟩ fun o3' hn3 hNO' => ?_ | with_reducible refine sg_back ?_ | fail))
            all_goals (first | refine sg_take 17 hcalm rfl (by kernel_rfl) (by kernel_rfl) (by kernel_rfl) ?_)
            all_goals (first | refine sg_take 18 hcalm rfl (by kernel_rfl) (by kernel_rfl) (by kernel_rfl) ?_)
            all_goals (refine sg_one 19 rfl (by kernel_rfl) rfl ?_)
            all_goals (repeat' (first | with_reducible (first | refine go1 ?_ | refine sct ?_ | refine scf ?_ | refine sgr ?_) | with_reducible refine sw_store ?_ | ((with_reducible refine sw_call (clB_ok b6 _ _ ub.length (ub.length + t6.length) (ub.map (Value.int .u8)) hrk (one_ints _ _) (by rw [List.length_map]) (by omega)) ?_); rintro _ _ (⟨h0, _⟩ | ⟨_, b8, t8, rfl, rfl⟩); (first | cases h0 | skip)) | with_reducible refine sw_buildSliceN [Value.int .i64 (m.sector * 482 + at'), .slice (some ⟨b8, 0, none⟩) ub.length (ub.length + t8.length)] ⟨by omega, by omega, by omega⟩ (by kernel_rfl) fun b9 => ?_ | with_reducible refine sw_appendNV (b7 := b9) (rall rs) [Value.int .i64 (m.sector * 482 + at'), .slice (some ⟨b8, 0, none⟩) ub.length (ub.length + t8.length)] rs.length o3 hNO (two_one _ _ _ _ _) (by kernel_rfl) (by omega) ⟨two_len _ _, by omega, by omega⟩ fun o3' hn3 hNO' => ?_ | with_reducible refine sg_back ?_ | fail))
            all_goals (refine sg_done (by kernel_rfl) rfl ?_)
          case' g4b =>
            all_goals (repeat' (first | with_reducible (first | refine go1 ?_ | refine sct ?_ | refine scf ?_ | refine sgr ?_) | with_reducible refine sw_store ?_ | ((with_reducible refine sw_call (clB_ok b6 _ _ ub.length (ub.length + t6.length) (ub.map (Value.int .u8)) hrk (one_ints _ _) (by rw [List.length_map]) (by omega)) ?_); rintro _ _ (⟨h0, _⟩ | ⟨_, b8, t8, rfl, rfl⟩); (first | cases h0 | skip)) | with_reducible refine sw_buildSliceN [Value.int .i64 (m.sector * 482 + at'), .slice (some ⟨b8, 0, none⟩) ub.length (ub.length + t8.length)] ⟨by omega, by omega, by omega⟩ (by kernel_rfl) fun b9 => ?_ | with_reducible refine sw_appendNV (b7 := b9) (rall rs) [Value.int .i64 (m.sector * 482 + at'), .slice (some ⟨b8, 0, none⟩) ub.length (ub.length + t8.length)] rs.length o3 hNO (two_one _ _ _ _ _) (by kernel_rfl) (by omega) ⟨two_len _ _, by omega, by omega⟩ fun o3' hn3 hNO' => ?_ | with_reducible refine sg_back ?_ | fail))
            all_goals (first | refine sg_take 14 hcalm rfl (by kernel_rfl) (by kernel_rfl) (by kernel_rfl) (h := runop_buildR [Value.int .i64 (m.sector * 482 + at'), .slice (some ⟨b8, 0, none⟩) ub.length (ub.length + t8.length)] (by kernel_rfl)) ?_ | refine sg_take 14 hcalm rfl (by kernel_rfl) (by kernel_rfl) (by kernel_rfl) ?_)
            refine sg_two 4 15 rfl rfl (by kernel_rfl) rfl ?g5a ?g5b
            case' g5a =>
              all_goals (repeat' (first | with_reducible (first | refine go1 ?_ | refine sct ?_ | refine scf ?_ | refine sgr ?_) | with_reducible refine sw_store ?_ | ((with_reducible refine sw_call (clB_ok b6 _ _ ub.length (ub.length + t6.length) (ub.map (Value.int .u8)) hrk (one_ints _ _) (by rw [List.length_map]) (by omega)) ?_); rintro _ _ (⟨h0, _⟩ | ⟨_, b8, t8, rfl, rfl⟩); (first | cases h0 | skip)) | with_reducible refine sw_buildSliceN [Value.int .i64 (m.sector * 482 + at'), .slice (some ⟨b8, 0, none⟩) ub.length (ub.length + t8.length)] ⟨by omega, by omega, by omega⟩ (by kernel_rfl) fun b9 => ?_ | with_reducible refine sw_appendNV (b7 := b9) (rall rs) [Value.int .i64 (m.sector * 482 + at'), .slice (some ⟨b8, 0, none⟩) ub.length (ub.length + t8.length)] rs.length o3 hNO (two_one _ _ _ _ _) (by kernel_rfl) (by omega) ⟨two_len _ _, by omega, by omega⟩ fun o3' hn3 hNO' => ?_ | with_reducible refine sg_back ?_ | fail))
              all_goals (refine sg_one 15 rfl (by kernel_rfl) rfl ?_)
              all_goals (repeat' (first | with_reducible (first | refine go1 ?_ | refine sct ?_ | refine scf ?_ | refine sgr ?_) | with_reducible refine sw_store ?_ | ((with_reducible refine sw_call (clB_ok b6 _ _ ub.length (ub.length + t6.length) (ub.map (Value.int .u8)) hrk (one_ints _ _) (by rw [List.length_map]) (by omega)) ?_); rintro _ _ (⟨h0, _⟩ | ⟨_, b8, t8, rfl, rfl⟩); (first | cases h0 | skip)) | with_reducible refine sw_buildSliceN [Value.int .i64 (m.sector * 482 + at'), .slice (some ⟨b8, 0, none⟩) ub.length (ub.length + t8.length)] ⟨by omega, by omega, by omega⟩ (by kernel_rfl) fun b9 => ?_ | with_reducible refine sw_appendNV (b7 := b9) (rall rs) [Value.int .i64 (m.sector * 482 + at'), .slice (some ⟨b8, 0, none⟩) ub.length (ub.length + t8.length)] rs.length o3 hNO (two_one _ _ _ _ _) (by kernel_rfl) (by omega) ⟨two_len _ _, by omega, by omega⟩ fun o3' hn3 hNO' => ?_ | with_reducible refine sg_back ?_ | fail))
              all_goals (refine sg_one 16 rfl (by kernel_rfl) rfl ?_)
              all_goals (repeat' (first | with_reducible (first | refine go1 ?_ | refine sct ?_ | refine scf ?_ | refine sgr ?_) | with_reducible refine sw_store ?_ | ((with_reducible refine sw_call (clB_ok b6 _ _ ub.length (ub.length + t6.length) (ub.map (Value.int .u8)) hrk (one_ints _ _) (by rw [List.length_map]) (by omega)) ?_); rintro _ _ (⟨h0, _⟩ | ⟨_, b8, t8, rfl, rfl⟩); (first | cases h0 | skip)) | with_reducible refine sw_buildSliceN [Value.int .i64 (m.sector * 482 + at'), .slice (some ⟨b8, 0, none⟩) ub.length (ub.length + t8.length)] ⟨by omega, by omega, by omega⟩ (by kernel_rfl) fun b9 => ?_ | with_reducible refine sw_appendNV (b7 := b9) (rall rs) [Value.int .i64 (m.sector * 482 + at'), .slice (some ⟨b8, 0, none⟩) ub.length (ub.length + t8.length)] rs.length o3 hNO (two_one _ _ _ _ _) (by kernel_rfl) (by omega) ⟨two_len _ _, by omega, by omega⟩ fun o3' hn3 hNO' => ?_ | with_reducible refine sg_back ?_ | fail))
              all_goals (first | refine sg_take 17 hcalm rfl (by kernel_rfl) (by kernel_rfl) (by kernel_rfl) ?_)
              all_goals (first | refine sg_take 18 hcalm rfl (by kernel_rfl) (by kernel_rfl) (by kernel_rfl) ?_)
              all_goals (refine sg_one 19 rfl (by kernel_rfl) rfl ?_)
              all_goals (repeat' (first | with_reducible (first | refine go1 ?_ | refine sct ?_ | refine scf ?_ | refine sgr ?_) | with_reducible refine sw_store ?_ | ((with_reducible refine sw_call (clB_ok b6 _ _ ub.length (ub.length + t6.length) (ub.map (Value.int .u8)) hrk (one_ints _ _) (by rw [List.length_map]) (by omega)) ?_); rintro _ _ (⟨h0, _⟩ | ⟨_, b8, t8, rfl, rfl⟩); (first | cases h0 | skip)) | with_reducible refine sw_buildSliceN [Value.int .i64 (m.sector * 482 + at'), .slice (some ⟨b8, 0, none⟩) ub.length (ub.length + t8.length)] ⟨by omega, by omega, by omega⟩ (by kernel_rfl) fun b9 => ?_ | with_reducible refine sw_appendNV (b7 := b9) (rall rs) [Value.int .i64 (m.sector * 482 + at'), .slice (some ⟨b8, 0, none⟩) ub.length (ub.length + t8.length)] rs.length o3 hNO (two_one _ _ _ _ _) (by kernel_rfl) (by omega) ⟨two_len _ _, by omega, by omega⟩ fun o3' hn3 hNO' => ?_ | with_reducible refine sg_back ?_ | fail))
              all_goals (refine sg_done (by kernel_rfl) rfl ?_)
            case' g5b =>
              all_goals (repeat' (first | with_reducible (first | refine go1 ?_ | refine sct ?_ | refine scf ?_ | refine sgr ?_) | with_reducible refine sw_store ?_ | ((with_reducible refine sw_call (clB_ok b6 _ _ ub.length (ub.length + t6.length) (ub.map (Value.int .u8)) hrk (one_ints _ _) (by rw [List.length_map]) (by omega)) ?_); rintro _ _ (⟨h0, _⟩ | ⟨_, b8, t8, rfl, rfl⟩); (first | cases h0 | skip)) | with_reducible refine sw_buildSliceN [Value.int .i64 (m.sector * 482 + at'), .slice (some ⟨b8, 0, none⟩) ub.length (ub.length + t8.length)] ⟨by omega, by omega, by omega⟩ (by kernel_rfl) fun b9 => ?_ | with_reducible refine sw_appendNV (b7 := b9) (rall rs) [Value.int .i64 (m.sector * 482 + at'), .slice (some ⟨b8, 0, none⟩) ub.length (ub.length + t8.length)] rs.length o3 hNO (two_one _ _ _ _ _) (by kernel_rfl) (by omega) ⟨two_len _ _, by omega, by omega⟩ fun o3' hn3 hNO' => ?_ | with_reducible refine sg_back ?_ | fail))
              all_goals (refine sg_one 4 rfl (by kernel_rfl) rfl ?_)
              all_goals (repeat' (first | with_reducible (first | refine go1 ?_ | refine sct ?_ | refine scf ?_ | refine sgr ?_) | with_reducible refine sw_store ?_ | ((with_reducible refine sw_call (clB_ok b6 _ _ ub.length (ub.length + t6.length) (ub.map (Value.int .u8)) hrk (one_ints _ _) (by rw [List.length_map]) (by omega)) ?_); rintro _ _ (⟨h0, _⟩ | ⟨_, b8, t8, rfl, rfl⟩); (first | cases h0 | skip)) | with_reducible refine sw_buildSliceN [Value.int .i64 (m.sector * 482 + at'), .slice (some ⟨b8, 0, none⟩) ub.length (ub.length + t8.length)] ⟨by omega, by omega, by omega⟩ (by kernel_rfl) fun b9 => ?_ | with_reducible refine sw_appendNV (b7 := b9) (rall rs) [Value.int .i64 (m.sector * 482 + at'), .slice (some ⟨b8, 0, none⟩) ub.length (ub.length + t8.length)] rs.length o3 hNO (two_one _ _ _ _ _) (by kernel_rfl) (by omega) ⟨two_len _ _, by omega, by omega⟩ fun o3' hn3 hNO' => ?_ | with_reducible refine sg_back ?_ | fail))
              all_goals (refine sg_one 16 rfl (by kernel_rfl) rfl ?_)
              all_goals (repeat' (first | with_reducible (first | refine go1 ?_ | refine sct ?_ | refine scf ?_ | refine sgr ?_) | with_reducible refine sw_store ?_ | ((with_reducible refine sw_call (clB_ok b6 _ _ ub.length (ub.length + t6.length) (ub.map (Value.int .u8)) hrk (one_ints _ _) (by rw [List.length_map]) (by omega)) ?_); rintro _ _ (⟨h0, _⟩ | ⟨_, b8, t8, rfl, rfl⟩); (first | cases h0 | skip)) | with_reducible refine sw_buildSliceN [Value.int .i64 (m.sector * 482 + at'), .slice (some ⟨b8, 0, none⟩) ub.length (ub.length + t8.length)] ⟨by omega, by omega, by omega⟩ (by kernel_rfl) fun b9 => ?_ | with_reducible refine sw_appendNV (b7 := b9) (rall rs) [Value.int .i64 (m.sector * 482 + at'), .slice (some ⟨b8, 0, none⟩) ub.length (ub.length + t8.length)] rs.length o3 hNO (two_one _ _ _ _ _) (by kernel_rfl) (by omega) ⟨two_len _ _, by omega, by omega⟩ fun o3' hn3 hNO' => ?_ | with_reducible refine sg_back ?_ | fail))
              all_goals (first | refine sg_take 17 hcalm rfl (by kernel_rfl) (by kernel_rfl) (by kernel_rfl) ?_)
              all_goals (first | refine sg_take 18 hcalm rfl (by kernel_rfl) (by kernel_rfl) (by kernel_rfl) ?_)
              all_goals (refine sg_one 19 rfl (by kernel_rfl) rfl ?_)
              all_goals (repeat' (first | with_reducible (first | refine go1 ?_ | refine sct ?_ | refine scf ?_ | refine sgr ?_) | with_reducible refine sw_store ?_ | ((with_reducible refine sw_call (clB_ok b6 _ _ ub.length (ub.length + t6.length) (ub.map (Value.int .u8)) hrk (one_ints _ _) (by rw [List.length_map]) (by omega)) ?_); rintro _ _ (⟨h0, _⟩ | ⟨_, b8, t8, rfl, rfl⟩); (first | cases h0 | skip)) | with_reducible refine sw_buildSliceN [Value.int .i64 (m.sector * 482 + at'), .slice (some ⟨b8, 0, none⟩) ub.length (ub.length + t8.length)] ⟨by omega, by omega, by omega⟩ (by kernel_rfl) fun b9 => ?_ | with_reducible refine sw_appendNV (b7 := b9) (rall rs) [Value.int .i64 (m.sector * 482 + at'), .slice (some ⟨b8, 0, none⟩) ub.length (ub.length + t8.length)] rs.length o3 hNO (two_one _ _ _ _ _) (by kernel_rfl) (by omega) ⟨two_len _ _, by omega, by omega⟩ fun o3' hn3 hNO' => ?_ | with_reducible refine sg_back ?_ | fail))
              all_goals (refine sg_done (by kernel_rfl) rfl ?_)
          all_goals
            refine sq_freeze (b := b8) ?_
            repeat' (first | with_reducible refine sw_i64 (by omega) ?_ | with_reducible (first | refine go1 ?_ | refine sct ?_ | refine scf ?_ | refine sgr ?_) | fail)
            refine sq_ent (Ent.trans (Ent.take (k := 7002) (r' := Bag _) (fun _ h => h) (Ent.take (k := b8) (r' := imm b8 _) (fun _ h => h) (Ent.refl _))) Bag.add) ?_
            have hsn := rall_snoc rs ((m.sector * 482 + (at' : Int), ub), Value.slice (some ⟨b8, 0, none⟩) ub.length (ub.length + t8.length))
            have hbn := rbag_snoc rs ((m.sector * 482 + (at' : Int), ub), Value.slice (some ⟨b8, 0, none⟩) ub.length (ub.length + t8.length))
            simp only [rcs] at hsn hbn
            rw [show ((at' : Int) + ue) = ((at' + ue.toNat : Nat) : Int) by omega]
            refine sq_round ⟨(rs ++ [((m.sector * 482 + (at' : Int), ub), Value.slice (some ⟨b8, 0, none⟩) ub.length (ub.length + t8.length))], at' + ue.toNat, o3'), ?_, ?_, ?_, k, ?_, ?_⟩ ?_ ?_ ?_
            · show NOk 2 (rall (rs ++ [_])) (rs ++ [_]).length o3'
              rw [hsn, List.length_append, List.length_singleton]
              exact hNO'
            · show (rs ++ [_]).length ≤ at' + ue.toNat
              rw [List.length_append, List.length_singleton]
              omega
            · show at' + ue.toNat ≤ max off row.length
              exact Nat.le_trans (by omega) (Nat.le_max_right _ _)
            · show row.length ≤ at' + ue.toNat + k
              omega
            · rw [hrec, List.map_append]
              rfl
            · show row.length - (at' + ue.toNat) < row.length - at'
              omega
            · repeat' (first | exact says_nil | refine says_cons rfl ?_ | refine says_cons (by simp) ?_)
            · dsimp only
              rw [hsn, hbn, List.length_append, List.length_singleton]
              repeat' (first | with_reducible exact Ent.refl _ | with_reducible refine Ent.take_eq ?_ ?_ | rfl | with_reducible refine Ent.oR ?_ | with_reducible refine Ent.trans (Ent.drop _ _) ?_)
    · rw [show recF m.sector row k at' (rs.map Prod.fst) = (rs.map Prod.fst, at') by
        cases k with
        | zero => rfl
        | succ k => rw [recF, if_pos (by omega)]] at hrec
      refine sq_join ⟨(rs, at', o3), hNO, hrsl, hatl, hrec⟩ ?_ ?_
      · repeat' (first | exact says_nil | refine says_cons rfl ?_ | refine says_cons (by simp) ?_)
      · dsimp only
        repeat' (first | with_reducible exact Ent.refl _ | with_reducible refine Ent.take_eq ?_ ?_ | rfl | with_reducible refine Ent.oR ?_ | with_reducible refine Ent.trans (Ent.drop _ _) ?_)
  rintro ⟨⟨rs, at', o3⟩, hNO, hrsl, hatl, hrec⟩ e'
  (try simp only at hNO hrsl hatl hrec)
  simp only [List.cons_append, List.nil_append]
  have hatl2 : at' ≤ 482 ∨ at' ≤ row.length := by omega
  obtain ⟨row2, hrow2⟩ : ∃ row2, row2 = row ++ List.replicate (at' - row.length) 0 := ⟨_, rfl⟩
  have hr2l : row2.length = row.length + (at' - row.length) := by rw [hrow2, List.length_append, List.length_replicate]
  refine sc_join (α := { o : Option (Nat × List Value) // o = none → row2 = [] })
    (fun _ => [(7, .pointer (some ⟨bm, 0, none⟩)), (12, .pointer (some ⟨bv, 0, none⟩)), (17, .int .i64 (at' : Int))])
    (fun o => (p, pts p (lobj pd f n ra 0 m.sector (bufV row2.length o.1) (bufV runs.length o2) m (nV rs.length o3) 0 0 false)) :: oR (rG row2) (oR (iG runs) (oR (nG 122 (rall rs)) ((7002, Bag (rbag rs)) :: (rx, defers0 rx) :: (bv, pts bv (.cells [.pointer (some ⟨p, 0, none⟩)].toArray 61 (0, 0))) :: (bm, pts bm (mobj m)) :: (pd, DISK pd s) :: F) o3) o2) o.1) ?_ ?_
  · repeat' (first | with_reducible (first | refine go1 ?_ | refine sct ?_ | refine scf ?_ | refine sgr ?_) | fail)
    refine sw_op (h := runop_lenV o1 hl1) ?_
    repeat' (first | with_reducible (first | refine go1 ?_ | refine sct ?_ | refine scf ?_ | refine sgr ?_) | (with_reducible refine sc_cond (fun h => ?_) (fun h => ?_)) <;> (try (exfalso; first | contradiction | omega | exact h Iff.rfl)) | fail)
    · refine sc_drawC (m := 16) ([(bv, pts bv (.cells [.pointer (some ⟨p, 0, none⟩)].toArray 61 (0, 0)))]) CalmC.out (by kernel_rfl) rfl (fun hcalm => ?_)
      all_goals (first | refine sg_take 0 hcalm rfl (by kernel_rfl) (by kernel_rfl) (by kernel_rfl) ?_)
      all_goals (first | refine sg_take 1 hcalm rfl (by kernel_rfl) (by kernel_rfl) (by kernel_rfl) ?_)
      all_goals (first | refine sg_take 2 hcalm rfl (by kernel_rfl) (by kernel_rfl) (by kernel_rfl) ?_)
      all_goals (first | refine sg_take 3 hcalm rfl (by kernel_rfl) (by kernel_rfl) (by kernel_rfl) ?_)
      all_goals (first | refine sg_take 5 hcalm rfl (by kernel_rfl) (by kernel_rfl) (by kernel_rfl) ?_)
      all_goals (first | refine sg_take 6 hcalm rfl (by kernel_rfl) (by kernel_rfl) (by kernel_rfl) ?_)
      all_goals (first | refine sg_take 7 hcalm rfl (by kernel_rfl) (by kernel_rfl) (by kernel_rfl) ?_)
      all_goals (first | refine sg_take 8 hcalm rfl (by kernel_rfl) (by kernel_rfl) (by kernel_rfl) ?_)
      refine sg_two 4 9 rfl rfl (by kernel_rfl) rfl ?g6a ?g6b
      case' g6a =>
        all_goals (repeat' (first | with_reducible (first | refine go1 ?_ | refine sct ?_ | refine scf ?_ | refine sgr ?_) | with_reducible refine sw_store ?_ | with_reducible refine sw_appendZV (kd := .u8) row (at' - row.length) o1 ho1 ⟨by omega, by omega, by omega, by omega⟩ fun o1' hn1 => ?_ | with_reducible refine sg_back ?_ | fail))
        all_goals (refine sg_one 9 rfl (by kernel_rfl) rfl ?_)
        all_goals (repeat' (first | with_reducible (first | refine go1 ?_ | refine sct ?_ | refine scf ?_ | refine sgr ?_) | with_reducible refine sw_store ?_ | with_reducible refine sw_appendZV (kd := .u8) row (at' - row.length) o1 ho1 ⟨by omega, by omega, by omega, by omega⟩ fun o1' hn1 => ?_ | with_reducible refine sg_back ?_ | fail))
        all_goals (first | refine sg_take 10 hcalm rfl (by kernel_rfl) (by kernel_rfl) (by kernel_rfl) (h := runop_lenV o1 hl1) ?_ | refine sg_take 10 hcalm rfl (by kernel_rfl) (by kernel_rfl) (by kernel_rfl) ?_)
        all_goals (first | refine sg_take_as 11 hcalm rfl (by kernel_rfl) (by kernel_rfl) (by kernel_rfl) (by rw [IntWalk.i64_in _ (by omega)]) ?_ | refine sg_take 11 hcalm rfl (by kernel_rfl) (by kernel_rfl) (by kernel_rfl) ?_)
        all_goals (refine sg_one 12 rfl (by kernel_rfl) rfl ?_)
        all_goals (repeat' (first | with_reducible (first | refine go1 ?_ | refine sct ?_ | refine scf ?_ | refine sgr ?_) | with_reducible refine sw_store ?_ | with_reducible refine sw_appendZV (kd := .u8) row (at' - row.length) o1 ho1 ⟨by omega, by omega, by omega, by omega⟩ fun o1' hn1 => ?_ | with_reducible refine sg_back ?_ | fail))
        all_goals (first | refine sg_take 13 hcalm rfl (by kernel_rfl) (by kernel_rfl) (by kernel_rfl) ?_)
        all_goals (first | refine sg_take 14 hcalm rfl (by kernel_rfl) (by kernel_rfl) (by kernel_rfl) ?_)
        all_goals (refine sg_one 15 rfl (by kernel_rfl) rfl ?_)
        all_goals (repeat' (first | with_reducible (first | refine go1 ?_ | refine sct ?_ | refine scf ?_ | refine sgr ?_) | with_reducible refine sw_store ?_ | with_reducible refine sw_appendZV (kd := .u8) row (at' - row.length) o1 ho1 ⟨by omega, by omega, by omega, by omega⟩ fun o1' hn1 => ?_ | with_reducible refine sg_back ?_ | fail))
        all_goals (refine sg_done (by kernel_rfl) rfl ?_)
      case' g6b =>
        all_goals (repeat' (first | with_reducible (first | refine go1 ?_ | refine sct ?_ | refine scf ?_ | refine sgr ?_) | with_reducible refine sw_store ?_ | with_reducible refine sw_appendZV (kd := .u8) row (at' - row.length) o1 ho1 ⟨by omega, by omega, by omega, by omega⟩ fun o1' hn1 => ?_ | with_reducible refine sg_back ?_ | fail))
        all_goals (first | refine sg_take 10 hcalm rfl (by kernel_rfl) (by kernel_rfl) (by kernel_rfl) (h := runop_lenV o1 hl1) ?_ | refine sg_take 10 hcalm rfl (by kernel_rfl) (by kernel_rfl) (by kernel_rfl) ?_)
        all_goals (first | refine sg_take_as 11 hcalm rfl (by kernel_rfl) (by kernel_rfl) (by kernel_rfl) (by rw [IntWalk.i64_in _ (by omega)]) ?_ | refine sg_take 11 hcalm rfl (by kernel_rfl) (by kernel_rfl) (by kernel_rfl) ?_)
        all_goals (refine sg_one 4 rfl (by kernel_rfl) rfl ?_)
        all_goals (repeat' (first | with_reducible (first | refine go1 ?_ | refine sct ?_ | refine scf ?_ | refine sgr ?_) | with_reducible refine sw_store ?_ | with_reducible refine sw_appendZV (kd := .u8) row (at' - row.length) o1 ho1 ⟨by omega, by omega, by omega, by omega⟩ fun o1' hn1 => ?_ | with_reducible refine sg_back ?_ | fail))
        all_goals (refine sg_one 12 rfl (by kernel_rfl) rfl ?_)
        all_goals (repeat' (first | with_reducible (first | refine go1 ?_ | refine sct ?_ | refine scf ?_ | refine sgr ?_) | with_reducible refine sw_store ?_ | with_reducible refine sw_appendZV (kd := .u8) row (at' - row.length) o1 ho1 ⟨by omega, by omega, by omega, by omega⟩ fun o1' hn1 => ?_ | with_reducible refine sg_back ?_ | fail))
        all_goals (first | refine sg_take 13 hcalm rfl (by kernel_rfl) (by kernel_rfl) (by kernel_rfl) ?_)
        all_goals (first | refine sg_take 14 hcalm rfl (by kernel_rfl) (by kernel_rfl) (by kernel_rfl) ?_)
        all_goals (refine sg_one 15 rfl (by kernel_rfl) rfl ?_)
        all_goals (repeat' (first | with_reducible (first | refine go1 ?_ | refine sct ?_ | refine scf ?_ | refine sgr ?_) | with_reducible refine sw_store ?_ | with_reducible refine sw_appendZV (kd := .u8) row (at' - row.length) o1 ho1 ⟨by omega, by omega, by omega, by omega⟩ fun o1' hn1 => ?_ | with_reducible refine sg_back ?_ | fail))
        all_goals (refine sg_done (by kernel_rfl) rfl ?_)
      all_goals
        repeat' (first | with_reducible (first | refine go1 ?_ | refine sct ?_ | refine scf ?_ | refine sgr ?_) | fail)
        refine sq_join ⟨o1', fun h => absurd h hn1⟩ ?_ ?_
        · repeat' (first | exact says_nil | refine says_cons rfl ?_ | refine says_cons (by simp) ?_)
        · dsimp only
          rw [hrow2]
          repeat' (first | with_reducible exact Ent.refl _ | with_reducible refine Ent.take_eq ?_ ?_ | rfl | with_reducible refine Ent.oR ?_ | with_reducible refine Ent.trans (Ent.drop _ _) ?_)
    · have hr20 : row2 = row := by rw [hrow2, show at' - row.length = 0 by omega, List.replicate_zero, List.append_nil]
      refine sq_join ⟨o1, fun h => by rw [hr20]; exact ho1 h⟩ ?_ ?_
      · repeat' (first | exact says_nil | refine says_cons rfl ?_ | refine says_cons (by simp) ?_)
      · dsimp only
        rw [hr20]
        repeat' (first | with_reducible exact Ent.refl _ | with_reducible refine Ent.take_eq ?_ ?_ | rfl | with_reducible refine Ent.oR ?_ | with_reducible refine Ent.trans (Ent.drop _ _) ?_)
  rintro ⟨o1b, ho1b⟩ e''
  (try simp only at ho1b)
  simp only [List.cons_append, List.nil_append]
  have hat2 : at' ≤ row2.length := by omega
  obtain ⟨row3, hrow3⟩ : ∃ row3, row3 = row2.take at' := ⟨_, rfl⟩
  have hr3l : row3.length = at' := by rw [hrow3, List.length_take]; omega
  refine sc_join (α := { o : Option (Nat × List Value) // o = none → row3 = [] })
    (fun _ => [(7, .pointer (some ⟨bm, 0, none⟩)), (12, .pointer (some ⟨bv, 0, none⟩)), (17, .int .i64 (at' : Int))])
    (fun o => (p, pts p (lobj pd f n ra 0 m.sector (bufV row3.length o.1) (bufV runs.length o2) m (nV rs.length o3) 0 0 false)) :: oR (rG row3) (oR (iG runs) (oR (nG 122 (rall rs)) ((7002, Bag (rbag rs)) :: (rx, defers0 rx) :: (bv, pts bv (.cells [.pointer (some ⟨p, 0, none⟩)].toArray 61 (0, 0))) :: (bm, pts bm (mobj m)) :: (pd, DISK pd s) :: F) o3) o2) o.1) ?_ ?_
  · rcases o1b with _ | ⟨b1, t1⟩
    · have hr20 := ho1b rfl
      have C1 := clBV_none bm (pts bm (mobj m)) row2 at' hr20
      rw [vG_none]
      refine sc_lin ([(bv, pts bv (.cells [.pointer (some ⟨p, 0, none⟩)].toArray 61 (0, 0)))]) (llp 0 (llp 1 (llp 2 (llp 3 (llp 5 (lle 4 (llp 6 (lle 7 (llp 8 (llp 9 (lle 10 ll0))))))))))) (by kernel_rfl) rfl (by kernel_rfl) ?_
      all_goals (iterate 5 refine go1l ?_)
      all_goals refine sl_eff ?_
      all_goals (repeat' (first | with_reducible (first | refine go1 ?_ | refine sct ?_ | refine scf ?_ | refine sgr ?_) | with_reducible refine sw_store ?_ | ((with_reducible refine sw_call C1 ?_); rintro _ _ ⟨rfl, rfl⟩) | with_reducible refine sl_back ?_ | fail))
      all_goals refine sl_take (h := runop_cutVO (kd := .u8) row2 at' none ho1b ⟨rfl, hat2⟩) ?_
      all_goals refine sl_eff ?_
      all_goals (repeat' (first | with_reducible (first | refine go1 ?_ | refine sct ?_ | refine scf ?_ | refine sgr ?_) | with_reducible refine sw_store ?_ | ((with_reducible refine sw_call C1 ?_); rintro _ _ ⟨rfl, rfl⟩) | with_reducible refine sl_back ?_ | fail))
      all_goals (iterate 2 refine go1l ?_)
      all_goals refine sl_eff ?_
      all_goals (repeat' (first | with_reducible (first | refine go1 ?_ | refine sct ?_ | refine scf ?_ | refine sgr ?_) | with_reducible refine sw_store ?_ | ((with_reducible refine sw_call C1 ?_); rintro _ _ ⟨rfl, rfl⟩) | with_reducible refine sl_back ?_ | fail))
      all_goals refine sl_done ?_
      refine sq_join ⟨none, fun _ => by rw [hrow3, hr20, List.take_nil]⟩ ?_ ?_
      · repeat' (first | exact says_nil | refine says_cons rfl ?_ | refine says_cons (by simp) ?_)
      · dsimp only
        rw [vG_none, hrow3]
        repeat' (first | with_reducible exact Ent.refl _ | with_reducible refine Ent.take_eq ?_ ?_ | rfl | with_reducible refine Ent.oR ?_ | with_reducible refine Ent.trans (Ent.drop _ _) ?_)
    · have C1 := clBV_some row2 at' b1 t1 (by omega)
      rw [vG_some]
      refine sc_lin ([(bv, pts bv (.cells [.pointer (some ⟨p, 0, none⟩)].toArray 61 (0, 0)))]) (llp 0 (llp 1 (llp 2 (llp 3 (llp 5 (lle 4 (llp 6 (lle 7 (llp 8 (llp 9 (lle 10 ll0))))))))))) (by kernel_rfl) rfl (by kernel_rfl) ?_
      all_goals (iterate 5 refine go1l ?_)
      all_goals refine sl_eff ?_
      all_goals (repeat' (first | with_reducible (first | refine go1 ?_ | refine sct ?_ | refine scf ?_ | refine sgr ?_) | with_reducible refine sw_store ?_ | ((with_reducible refine sw_call C1 ?_); rintro _ _ ⟨b3, t3, rfl, rfl⟩) | with_reducible refine sl_back ?_ | fail))
      all_goals refine sl_take (h := runop_cutVO (kd := .u8) row2 at' (some (b1, t1)) ho1b ⟨rfl, hat2⟩) ?_
      all_goals refine sl_eff ?_
      all_goals (repeat' (first | with_reducible (first | refine go1 ?_ | refine sct ?_ | refine scf ?_ | refine sgr ?_) | with_reducible refine sw_store ?_ | ((with_reducible refine sw_call C1 ?_); rintro _ _ ⟨b3, t3, rfl, rfl⟩) | with_reducible refine sl_back ?_ | fail))
      all_goals (iterate 2 refine go1l ?_)
      all_goals refine sl_eff ?_
      all_goals (repeat' (first | with_reducible (first | refine go1 ?_ | refine sct ?_ | refine scf ?_ | refine sgr ?_) | with_reducible refine sw_store ?_ | ((with_reducible refine sw_call C1 ?_); rintro _ _ ⟨b3, t3, rfl, rfl⟩) | with_reducible refine sl_back ?_ | fail))
      all_goals refine sl_done ?_
      refine sq_join ⟨some (b3, t3), fun h => by cases h⟩ ?_ ?_
      · repeat' (first | exact says_nil | refine says_cons rfl ?_ | refine says_cons (by simp) ?_)
      · dsimp only
        rw [vG_some, hrow3]
        repeat' (first | with_reducible exact Ent.refl _ | with_reducible refine Ent.take_eq ?_ ?_ | rfl | with_reducible refine Ent.oR ?_ | with_reducible refine Ent.trans (Ent.drop _ _) ?_)
  rintro ⟨o1c, ho1c⟩ e3
  (try simp only at ho1c)
  simp only [List.cons_append, List.nil_append]
  have hhfl : flwF (fndsOf s f n) m.sector (fndsOf s f n).length 0 m.run = all.map Prod.fst := by rw [hall, flw_fst, ← hfnds, List.length_map]
  have hL : opnL (fndsOf s f n) pd f n m = { d := pd, f, n, run := ra, began := m.sector * 482 + (at' : Int), base := m.sector, row := row3, runs := runs.take ((at' + 481) / 482), first := m, l := rs.map Prod.fst, sure := m.sector * 482 + (at' : Int), flushed := m.number + (rs.length : Int), dirty := false } := by
    unfold opnL
    simp only [hhfl, hrr, hoff2, hrec]
    rw [← hfnds, hra, hrow3, hrow2, List.length_map]
  obtain ⟨K, hK⟩ : ∃ K, K = (at' + 481) / 482 := ⟨_, rfl⟩
  have hKt : runs.take K = runs.take (min K runs.length) := by rw [List.take_eq_take_iff]; omega
  have ho2' : o2 = none → runs = [] := ho2.1
  obtain ⟨ru, hru⟩ : ∃ ru, ru = runs.take (min K runs.length) := ⟨_, rfl⟩
  obtain ⟨o2c, ho2c⟩ : ∃ o2c, o2c = cutO .i64 runs (min K runs.length) o2 := ⟨_, rfl⟩
  have hW : (opnL (fndsOf s f n) pd f n m).Wf := by
    rw [hL]
    exact {
      n1 := by show 2 ≤ n ∧ n ≤ 16384 ∧ f ≤ 16384; omega
      first := ⟨hm1, hm2, hm3, hm4, hm5⟩
      base := rfl
      row := by show row3.length ≤ n * 482; omega
      byt := by
        show Byt row3
        rw [hrow3, hrow2]
        exact fun x hx => (hrb.app fun y hy => by rw [List.eq_of_mem_replicate hy]; omega) x (List.mem_of_mem_take hx)
      recs := by
        have := recF_in (base := m.sector) hrb (k := row.length) (at' := off) (l := []) (fun r hr => by cases hr)
        rw [hrec] at this
        exact this
      many := by show (rs.map Prod.fst).length ≤ _; rw [List.length_map]; omega
      run := hrai
      began := by show 0 ≤ m.sector * 482 + (at' : Int) ∧ m.sector * 482 + (at' : Int) ≤ _; omega
      runs := ⟨by show (runs.take _).length ≤ _; rw [List.length_take]; show _ ≤ n + 1; omega, fun y hy => by have := hub y (List.mem_of_mem_take hy); omega⟩
      sure := by show 0 ≤ m.sector * 482 + (at' : Int) ∧ m.sector * 482 + (at' : Int) ≤ _; omega
      flushed := by show 0 ≤ m.number + (rs.length : Int) ∧ m.number + (rs.length : Int) ≤ _; omega }
  have hcl := fun F' => LOG.close (p := p) (F := F') (o1 := o1c) (o2 := o2c) (o3 := o3) (rs := rs) hW (by rw [hL]; exact ho1c) (by
    rw [hL]
    intro h
    show runs.take _ = []
    rw [ho2c] at h
    rw [ho2' (by cases o2 with
      | none => rfl
      | some x => cases h), List.take_nil]) hNO (by rw [hL])
  clear hW
  rw [hL] at hcl
  simp only at hcl
  rw [← hK, hKt, ← hru] at hcl hL
  clear hrec
  subst hr3l
  have hl3 : o3 = none → rs.length = 0 := fun h => (hNO.2.1 h).2
  have hl1c : o1c = none → row3.length = 0 := fun h => by rw [ho1c h]; rfl
  have hl2 : o2 = none → runs.length = 0 := fun h => by rw [ho2' h]; rfl
  repeat' (first | with_reducible (first | refine go1 ?_ | refine sct ?_ | refine scf ?_ | refine sgr ?_) | fail)
  refine sc_drawC (m := 19) ([(bv, pts bv (.cells [.pointer (some ⟨p, 0, none⟩)].toArray 61 (0, 0)))]) CalmC.out (by kernel_rfl) rfl (fun hcalm => ?_)
  all_goals (first | refine sg_take 0 hcalm rfl (by kernel_rfl) (by kernel_rfl) (by kernel_rfl) ?_)
  all_goals (first | refine sg_take 1 hcalm rfl (by kernel_rfl) (by kernel_rfl) (by kernel_rfl) ?_)
  all_goals (first | refine sg_take 2 hcalm rfl (by kernel_rfl) (by kernel_rfl) (by kernel_rfl) ?_)
  all_goals (first | refine sg_take 3 hcalm rfl (by kernel_rfl) (by kernel_rfl) (by kernel_rfl) ?_)
  all_goals (first | refine sg_take 5 hcalm rfl (by kernel_rfl) (by kernel_rfl) (by kernel_rfl) ?_)
  all_goals (first | refine sg_take 6 hcalm rfl (by kernel_rfl) (by kernel_rfl) (by kernel_rfl) ?_)
  all_goals (first | refine sg_take 7 hcalm rfl (by kernel_rfl) (by kernel_rfl) (by kernel_rfl) ?_)
  all_goals (first | refine sg_take 10 hcalm rfl (by kernel_rfl) (by kernel_rfl) (by kernel_rfl) ?_)
  all_goals (first | refine sg_take_as 11 hcalm rfl (by kernel_rfl) (by kernel_rfl) (by kernel_rfl) (by rw [IntWalk.i64_in _ (by omega)]) ?_ | refine sg_take 11 hcalm rfl (by kernel_rfl) (by kernel_rfl) (by kernel_rfl) ?_)
  all_goals (first | refine sg_take_as 12 hcalm rfl (by kernel_rfl) (by kernel_rfl) (by kernel_rfl) (by rw [IntWalk.i64_in _ (by omega)]) ?_ | refine sg_take 12 hcalm rfl (by kernel_rfl) (by kernel_rfl) (by kernel_rfl) ?_)
  all_goals (first | refine sg_take 13 hcalm rfl (by kernel_rfl) (by kernel_rfl) (by kernel_rfl) (h := runop_quo_nn (by omega)) ?_ | refine sg_take 13 hcalm rfl (by kernel_rfl) (by kernel_rfl) (by kernel_rfl) ?_)
  refine sg_two 4 8 rfl rfl (by kernel_rfl) rfl ?g7a ?g7b
  case' g7a =>
    all_goals (repeat' (first | with_reducible (first | refine go1 ?_ | refine sct ?_ | refine scf ?_ | refine sgr ?_) | with_reducible refine sw_store ?_ | with_reducible refine sg_back ?_ | fail))
    all_goals (refine sg_one 8 rfl (by kernel_rfl) rfl ?_)
    all_goals (repeat' (first | with_reducible (first | refine go1 ?_ | refine sct ?_ | refine scf ?_ | refine sgr ?_) | with_reducible refine sw_store ?_ | with_reducible refine sg_back ?_ | fail))
    all_goals (first | refine sg_take 9 hcalm rfl (by kernel_rfl) (by kernel_rfl) (by kernel_rfl) (h := runop_lenV o2 hl2) ?_ | refine sg_take 9 hcalm rfl (by kernel_rfl) (by kernel_rfl) (by kernel_rfl) ?_)
    all_goals (first | refine sg_take 14 hcalm rfl (by kernel_rfl) (by kernel_rfl) (by kernel_rfl) ?_)
    all_goals (first | refine sg_take 15 hcalm rfl (by kernel_rfl) (by kernel_rfl) (by kernel_rfl) (h := runop_cutVO (kd := .i64) runs (min K runs.length) o2 ho2' ⟨by split <;> omega, Nat.min_le_right _ _⟩) ?_ | refine sg_take 15 hcalm rfl (by kernel_rfl) (by kernel_rfl) (by kernel_rfl) ?_)
    all_goals (first | refine sg_take 16 hcalm rfl (by kernel_rfl) (by kernel_rfl) (by kernel_rfl) ?_)
    all_goals (first | refine sg_take 17 hcalm rfl (by kernel_rfl) (by kernel_rfl) (by kernel_rfl) ?_)
    all_goals (refine sg_one 18 rfl (by kernel_rfl) rfl ?_)
    all_goals (repeat' (first | with_reducible (first | refine go1 ?_ | refine sct ?_ | refine scf ?_ | refine sgr ?_) | with_reducible refine sw_store ?_ | with_reducible refine sg_back ?_ | fail))
    all_goals (refine sg_done (by kernel_rfl) rfl ?_)
  case' g7b =>
    all_goals (repeat' (first | with_reducible (first | refine go1 ?_ | refine sct ?_ | refine scf ?_ | refine sgr ?_) | with_reducible refine sw_store ?_ | with_reducible refine sg_back ?_ | fail))
    all_goals (first | refine sg_take 9 hcalm rfl (by kernel_rfl) (by kernel_rfl) (by kernel_rfl) (h := runop_lenV o2 hl2) ?_ | refine sg_take 9 hcalm rfl (by kernel_rfl) (by kernel_rfl) (by kernel_rfl) ?_)
    all_goals (first | refine sg_take 14 hcalm rfl (by kernel_rfl) (by kernel_rfl) (by kernel_rfl) ?_)
    all_goals (refine sg_one 4 rfl (by kernel_rfl) rfl ?_)
    all_goals (repeat' (first | with_reducible (first | refine go1 ?_ | refine sct ?_ | refine scf ?_ | refine sgr ?_) | with_reducible refine sw_store ?_ | with_reducible refine sg_back ?_ | fail))
    all_goals (first | refine sg_take 15 hcalm rfl (by kernel_rfl) (by kernel_rfl) (by kernel_rfl) (h := runop_cutVO (kd := .i64) runs (min K runs.length) o2 ho2' ⟨by split <;> omega, Nat.min_le_right _ _⟩) ?_ | refine sg_take 15 hcalm rfl (by kernel_rfl) (by kernel_rfl) (by kernel_rfl) ?_)
    all_goals (first | refine sg_take 16 hcalm rfl (by kernel_rfl) (by kernel_rfl) (by kernel_rfl) ?_)
    all_goals (first | refine sg_take 17 hcalm rfl (by kernel_rfl) (by kernel_rfl) (by kernel_rfl) ?_)
    all_goals (refine sg_one 18 rfl (by kernel_rfl) rfl ?_)
    all_goals (repeat' (first | with_reducible (first | refine go1 ?_ | refine sct ?_ | refine scf ?_ | refine sgr ?_) | with_reducible refine sw_store ?_ | with_reducible refine sg_back ?_ | fail))
    all_goals (refine sg_done (by kernel_rfl) rfl ?_)
  all_goals
    rw [oR_cut .i64 2 runs (min K runs.length) o2, ← hru, ← ho2c]
    repeat' (first | with_reducible (first | refine go1 ?_ | refine sct ?_ | refine scf ?_ | refine sgr ?_) | fail)
    refine sc_lin ([(bv, pts bv (.cells [.pointer (some ⟨p, 0, none⟩)].toArray 61 (0, 0)))]) (llp 0 (llp 1 (llp 2 (llp 3 (llp 5 (llp 7 (lle 4 (lle 6 (lle 8 (llp 9 (llp 10 (lle 11 (llp 12 (llp 13 (lle 14 (llp 15 (llp 16 (lle 17 ll0)))))))))))))))))) (by kernel_rfl) rfl (by kernel_rfl) ?_
    all_goals (iterate 6 refine go1l ?_)
    all_goals refine sl_eff ?_
    all_goals (repeat' (first | with_reducible (first | refine go1 ?_ | refine sct ?_ | refine scf ?_ | refine sgr ?_) | with_reducible refine sw_store ?_ | ((with_reducible refine sw_call (wEnd_ok p pd f n ra 0 m.sector row3.length o1c (bufV ru.length o2c) m 0 0 false hl1c (by omega) (nV rs.length o3)) ?_); rintro _ _ ⟨rfl, rfl⟩) | ((with_reducible refine sw_call (wNext_ok p pd f n ra 0 m.sector rs.length (bufV ru.length o2c) m o3 0 0 false hl3 (by omega) (bufV row3.length o1c)) ?_); rintro _ _ ⟨rfl, rfl⟩) | with_reducible refine sl_back ?_ | fail))
    all_goals refine sl_eff ?_
    all_goals (repeat' (first | with_reducible (first | refine go1 ?_ | refine sct ?_ | refine scf ?_ | refine sgr ?_) | with_reducible refine sw_store ?_ | ((with_reducible refine sw_call (wEnd_ok p pd f n ra 0 m.sector row3.length o1c (bufV ru.length o2c) m 0 0 false hl1c (by omega) (nV rs.length o3)) ?_); rintro _ _ ⟨rfl, rfl⟩) | ((with_reducible refine sw_call (wNext_ok p pd f n ra 0 m.sector rs.length (bufV ru.length o2c) m o3 0 0 false hl3 (by omega) (bufV row3.length o1c)) ?_); rintro _ _ ⟨rfl, rfl⟩) | with_reducible refine sl_back ?_ | fail))
    all_goals refine sl_eff ?_
    all_goals (repeat' (first | with_reducible (first | refine go1 ?_ | refine sct ?_ | refine scf ?_ | refine sgr ?_) | with_reducible refine sw_store ?_ | ((with_reducible refine sw_call (wEnd_ok p pd f n ra 0 m.sector row3.length o1c (bufV ru.length o2c) m 0 0 false hl1c (by omega) (nV rs.length o3)) ?_); rintro _ _ ⟨rfl, rfl⟩) | ((with_reducible refine sw_call (wNext_ok p pd f n ra 0 m.sector rs.length (bufV ru.length o2c) m o3 0 0 false hl3 (by omega) (bufV row3.length o1c)) ?_); rintro _ _ ⟨rfl, rfl⟩) | with_reducible refine sl_back ?_ | fail))
    all_goals (iterate 2 refine go1l ?_)
    all_goals refine sl_eff ?_
    all_goals (repeat' (first | with_reducible (first | refine go1 ?_ | refine sct ?_ | refine scf ?_ | refine sgr ?_) | with_reducible refine sw_store ?_ | ((with_reducible refine sw_call (wEnd_ok p pd f n ra 0 m.sector row3.length o1c (bufV ru.length o2c) m 0 0 false hl1c (by omega) (nV rs.length o3)) ?_); rintro _ _ ⟨rfl, rfl⟩) | ((with_reducible refine sw_call (wNext_ok p pd f n ra 0 m.sector rs.length (bufV ru.length o2c) m o3 0 0 false hl3 (by omega) (bufV row3.length o1c)) ?_); rintro _ _ ⟨rfl, rfl⟩) | with_reducible refine sl_back ?_ | fail))
    all_goals (iterate 2 refine go1l ?_)
    all_goals refine sl_eff ?_
    all_goals (repeat' (first | with_reducible (first | refine go1 ?_ | refine sct ?_ | refine scf ?_ | refine sgr ?_) | with_reducible refine sw_store ?_ | ((with_reducible refine sw_call (wEnd_ok p pd f n ra 0 m.sector row3.length o1c (bufV ru.length o2c) m 0 0 false hl1c (by omega) (nV rs.length o3)) ?_); rintro _ _ ⟨rfl, rfl⟩) | ((with_reducible refine sw_call (wNext_ok p pd f n ra 0 m.sector rs.length (bufV ru.length o2c) m o3 0 0 false hl3 (by omega) (bufV row3.length o1c)) ?_); rintro _ _ ⟨rfl, rfl⟩) | with_reducible refine sl_back ?_ | fail))
    all_goals (iterate 2 refine go1l ?_)
    all_goals refine sl_eff ?_
    all_goals (repeat' (first | with_reducible (first | refine go1 ?_ | refine sct ?_ | refine scf ?_ | refine sgr ?_) | with_reducible refine sw_store ?_ | ((with_reducible refine sw_call (wEnd_ok p pd f n ra 0 m.sector row3.length o1c (bufV ru.length o2c) m 0 0 false hl1c (by omega) (nV rs.length o3)) ?_); rintro _ _ ⟨rfl, rfl⟩) | ((with_reducible refine sw_call (wNext_ok p pd f n ra 0 m.sector rs.length (bufV ru.length o2c) m o3 0 0 false hl3 (by omega) (bufV row3.length o1c)) ?_); rintro _ _ ⟨rfl, rfl⟩) | with_reducible refine sl_back ?_ | fail))
    all_goals refine sl_done ?_
    repeat' (first | with_reducible (first | refine go1 ?_ | refine sct ?_ | refine scf ?_ | refine sgr ?_) | fail)
    refine sq_ret_m rfl ?_
    refine sq_ret2 Try.results32 ?_
    refine ⟨_, ⟨p, rfl, rfl⟩, ?_⟩
    rw [hL]
    refine Ent.trans ?_ (hcl _)
    repeat' (first | with_reducible exact Ent.refl _ | with_reducible refine Ent.take_eq ?_ ?_ | rfl | with_reducible refine Ent.oR ?_ | with_reducible refine Ent.trans (Ent.drop _ _) ?_)
end Go.Gsl

namespace Go.Gsl
set_option linter.unusedVariables false
open Go.Proofs

def Lg.end (L : Lg) : Int := L.base * 482 + L.row.length
def Lg.next (L : Lg) : Int := L.first.number + L.l.length
def Lg.limit (L : Lg) : Int := (L.first.sector + L.n) * 482
/-- the run of a sector -/
def Lg.runAt (L : Lg) (i : Int) : Int := if 0 ≤ i ∧ i < L.runs.length ∧ 0 ≤ (L.runs[i.toNat]?).getD 0 then (L.runs[i.toNat]?).getD 0 else L.run
def Lg.mk' (L : Lg) (at' number : Int) : Mk := ⟨at' / 482, at' % 482, number, L.runAt (at' / 482 - L.base)⟩
def Lg.mark (L : Lg) : Mk := L.mk' L.end L.next
theorem Lg.Wf.b {L : Lg} (h : L.Wf) : 0 ≤ L.base ∧ L.base ≤ 1099511627776 ∧ L.row.length ≤ 7897088 ∧ 0 ≤ L.end ∧ L.end ≤ 529972501676096 ∧ 0 ≤ L.first.number ∧ L.first.number ≤ 1099511627776 ∧ 0 ≤ L.next ∧ L.next ≤ 3298534883328 ∧ 0 ≤ L.limit ∧ L.limit ≤ 529972501676096 := by
  obtain ⟨⟨h1, h1'⟩, ⟨h2, h2'⟩, _⟩ := h.first
  have h3 := h.base
  have h4 := h.row
  have h5 := h.n1
  have h6 := h.many
  unfold Lg.end Lg.next Lg.limit
  refine ⟨by omega, by omega, by omega, by omega, by omega, h2, h2', by omega, by omega, by omega, by omega⟩
/-- a cell of the log that is no row -/
class LogCell (L : Lg) (i : Nat) (v : outParam Value) : Prop where out : ∀ vr vu vl, (match lobj L.d L.f L.n L.run L.began L.base vr vu L.first vl L.sure L.flushed L.dirty with | .cells cs _ _ => cs[i]? | _ => none) = some v
instance (L : Lg) : LogCell L 0 (.pointer (some ⟨L.d, 0, none⟩)) := ⟨fun _ _ _ => rfl⟩
instance (L : Lg) : LogCell L 1 (.int .i64 L.f) := ⟨fun _ _ _ => rfl⟩
instance (L : Lg) : LogCell L 2 (.int .i64 L.n) := ⟨fun _ _ _ => rfl⟩
instance (L : Lg) : LogCell L 3 (.int .i64 L.run) := ⟨fun _ _ _ => rfl⟩
instance (L : Lg) : LogCell L 4 (.int .i64 L.began) := ⟨fun _ _ _ => rfl⟩
instance (L : Lg) : LogCell L 5 (.int .i64 L.base) := ⟨fun _ _ _ => rfl⟩
instance (L : Lg) : LogCell L 8 (.int .i64 L.first.sector) := ⟨fun _ _ _ => rfl⟩
instance (L : Lg) : LogCell L 9 (.int .i64 L.first.offset) := ⟨fun _ _ _ => rfl⟩
instance (L : Lg) : LogCell L 10 (.int .i64 L.first.number) := ⟨fun _ _ _ => rfl⟩
instance (L : Lg) : LogCell L 11 (.int .i64 L.first.run) := ⟨fun _ _ _ => rfl⟩
instance (L : Lg) : LogCell L 13 (.int .i64 L.sure) := ⟨fun _ _ _ => rfl⟩
instance (L : Lg) : LogCell L 14 (.int .i64 L.flushed) := ⟨fun _ _ _ => rfl⟩
instance (L : Lg) : LogCell L 15 (.bool L.dirty) := ⟨fun _ _ _ => rfl⟩
theorem LOG.cell {p : Nat} {L : Lg} {i : Nat} {v : Value} [hc : LogCell L i v] {h : Hp} (hl : LOG p L h) : cellF p i v h := by
  obtain ⟨o, _, h2⟩ := hl
  exact ⟨_, _, _, _, sepL_head h2, hc.out _ _ _⟩
instance Sub.log {p : Nat} {L : Lg} {i : Nat} {v : Value} {Rs F G : List Res} [t : Take Rs p (LOG p L) F] [hc : LogCell L i v] [h2 : Sub F G] : Sub Rs ((p, cellF p i v) :: G) :=
  ⟨(t.ent.trans (Ent.head fun _ h => h.cell)).trans (Ent.cons _ h2.ent)⟩
instance RunOp.log {P : Program} {n : Nat} {w0 : World} {e : Env} {Rs F : List Res} {ty t : TypeId} {x : Operand} {p i : Nat} {L : Lg} {v : Value} [h : Ev n e x (.pointer (some ⟨p, i, none⟩))] [hn : NonAgg P t] [tk : Take Rs p (LOG p L) F] [hc : LogCell L i v] : RunOp P n w0 e Rs (.load t x) ty v :=
  runop_load fun w hw => by
    have h1 := hw.ent (tk.ent.trans (Ent.head fun _ h => LOG.cell (i := i) h))
    obtain ⟨_, z, hf, hs⟩ := h1
    obtain ⟨x1, y1, hd, rfl, ⟨cs, t', fr, f, hb, hc'⟩, _⟩ := hs
    exact cell_of (hf.left _ _ _ hb) hc'
theorem LOG.cellw {p : Nat} {L : Lg} {i : Nat} {v : Value} (hc : LogCell L i v) {w0 w : World} {Rs F : List Res} [tk : Take Rs p (LOG p L) F] (hw : Sat w0 w Rs) : w.cell? ⟨p, i, none⟩ = some v := by
  have h1 := hw.ent (tk.ent.trans (Ent.head fun _ h => LOG.cell (hc := hc) h))
  obtain ⟨_, z, hf, hs⟩ := h1
  obtain ⟨x1, y1, hd, rfl, ⟨cs, t', fr, f, hb, hc'⟩, _⟩ := hs
  exact cell_of (hf.left _ _ _ hb) hc'
instance Mk.t0 (m : Mk) : TupAt m.cs 0 (.int .i64 m.sector) := ⟨rfl⟩
instance Mk.t1 (m : Mk) : TupAt m.cs 1 (.int .i64 m.offset) := ⟨rfl⟩
instance Mk.t2 (m : Mk) : TupAt m.cs 2 (.int .i64 m.number) := ⟨rfl⟩
instance Mk.t3 (m : Mk) : TupAt m.cs 3 (.int .i64 m.run) := ⟨rfl⟩
instance RunOp.logFirst {P : Program} {n : Nat} {w0 : World} {e : Env} {Rs F : List Res} {ty t : TypeId} {x : Operand} {p : Nat} {L : Lg} [h : Ev n e x (.pointer (some ⟨p, 8, none⟩))] [ha : IsAggT P t] [hs : SizeOf P t 4] [tk : Take Rs p (LOG p L) F] : RunOp P n w0 e Rs (.load t x) ty (.agg L.first.cs.toArray) :=
  runop_load_agg 4 rfl fun w hw j v hj => by
    match j, hj with
    | 0, hj => cases hj; exact LOG.cellw (L := L) (i := 8) inferInstance hw
    | 1, hj => cases hj; exact LOG.cellw (L := L) (i := 9) inferInstance hw
    | 2, hj => cases hj; exact LOG.cellw (L := L) (i := 10) inferInstance hw
    | 3, hj => cases hj; exact LOG.cellw (L := L) (i := 11) inferInstance hw
section
variable (p : Nat) (L : Lg)
theorem wNone_ok : Spec Try.prog 77 [.pointer (some ⟨p, 0, none⟩)] [p] [LOG p L] fun F w Rs' => w = .bool false ∧ Rs' = (p, LOG p L) :: F := by
  refine spec_of Try.func77 rfl Try.ntmps77 rfl ?_
  intro w0 F
  repeat' (first | with_reducible (first | refine go1 ?_ | refine sct ?_ | refine scf ?_ | refine sgr ?_) | fail)
  refine sq_ret1 Try.results77 ?_
  exact ⟨_, ⟨rfl, rfl⟩, Ent.refl _⟩
theorem wEnd_log : Spec Try.prog 75 [.pointer (some ⟨p, 0, none⟩)] [p] [LOG p L] fun F w Rs' => w = .int .i64 L.end ∧ Rs' = (p, LOG p L) :: F := by
  refine spec_of Try.func75 rfl Try.ntmps75 rfl ?_
  intro w0 F
  refine LOG.sc p L fun o1 o2 o3 rs hW ho1 ho2 hN hrs => ?_
  have hb := hW.b
  have hl1 : o1 = none → L.row.length = 0 := fun h => by rw [ho1 h]; rfl
  repeat' (first | with_reducible (first | refine go1 ?_ | refine sct ?_ | refine scf ?_ | refine sgr ?_) | fail)
  refine sc_lin ([(p, pts p (lobj L.d L.f L.n L.run L.began L.base (bufV L.row.length o1) (bufV L.runs.length o2) L.first (nV rs.length o3) L.sure L.flushed L.dirty))]) (llp 0 (llp 1 (llp 2 (llp 3 (llp 4 (llp 5 (llp 6 (llp 7 (llp 8 (llp 9 (llp 10 (llp 11 ll0)))))))))))) (by kernel_rfl) rfl (by kernel_rfl) ?_
  all_goals (iterate 4 refine go1l ?_)
  all_goals (first | refine sl_in (by omega) ?_ | refine go1l ?_)
  all_goals (iterate 4 refine go1l ?_)
  all_goals refine sl_take (h := runop_lenV o1 hl1) ?_
  all_goals (first | refine sl_in (by omega) ?_ | refine go1l ?_)
  all_goals refine go1l ?_
  all_goals refine sl_done ?_
  repeat' (first | with_reducible (first | refine go1 ?_ | refine sct ?_ | refine scf ?_ | refine sgr ?_) | fail)
  refine sq_ret1 Try.results75 ?_
  refine ⟨_, ⟨rfl, rfl⟩, Ent.trans ?_ (LOG.close hW ho1 ho2 hN hrs)⟩
  repeat' (first | with_reducible exact Ent.refl _ | with_reducible refine Ent.take_eq ?_ ?_ | rfl | with_reducible refine Ent.oR ?_ | with_reducible refine Ent.trans (Ent.drop _ _) ?_)
theorem wNext_log : Spec Try.prog 76 [.pointer (some ⟨p, 0, none⟩)] [p] [LOG p L] fun F w Rs' => w = .int .i64 L.next ∧ Rs' = (p, LOG p L) :: F := by
  refine spec_of Try.func76 rfl Try.ntmps76 rfl ?_
  intro w0 F
  refine LOG.sc p L fun o1 o2 o3 rs hW ho1 ho2 hN hrs => ?_
  have hb := hW.b
  have hm := hW.many
  have hll : rs.length = L.l.length := by rw [← hrs, List.length_map]
  have hl3 : o3 = none → rs.length = 0 := fun h => (hN.2.1 h).2
  repeat' (first | with_reducible (first | refine go1 ?_ | refine sct ?_ | refine scf ?_ | refine sgr ?_) | fail)
  refine sc_lin ([(p, pts p (lobj L.d L.f L.n L.run L.began L.base (bufV L.row.length o1) (bufV L.runs.length o2) L.first (nV rs.length o3) L.sure L.flushed L.dirty))]) (llp 0 (llp 1 (llp 2 (llp 3 (llp 4 (llp 5 (llp 6 (llp 7 (llp 8 (llp 9 (llp 10 (llp 11 ll0)))))))))))) (by kernel_rfl) rfl (by kernel_rfl) ?_
  all_goals (iterate 9 refine go1l ?_)
  all_goals refine sl_take (h := runop_lenNV o3 hl3) ?_
  all_goals (first | refine sl_in (by omega) ?_ | refine go1l ?_)
  all_goals refine go1l ?_
  all_goals refine sl_done ?_
  repeat' (first | with_reducible (first | refine go1 ?_ | refine sct ?_ | refine scf ?_ | refine sgr ?_) | fail)
  refine sq_ret1 Try.results76 ?_
  refine ⟨_, ⟨by unfold Lg.next; rw [hll], rfl⟩, Ent.trans ?_ (LOG.close hW ho1 ho2 hN hrs)⟩
  repeat' (first | with_reducible exact Ent.refl _ | with_reducible refine Ent.take_eq ?_ ?_ | rfl | with_reducible refine Ent.oR ?_ | with_reducible refine Ent.trans (Ent.drop _ _) ?_)
theorem wFirst_ok : Spec Try.prog 44 [.pointer (some ⟨p, 0, none⟩)] [p] [LOG p L] fun F w Rs' => w = .agg L.first.cs.toArray ∧ Rs' = (p, LOG p L) :: F := by
  refine spec_of Try.func44 rfl Try.ntmps44 rfl ?_
  intro w0 F
  repeat' (first | with_reducible (first | refine go1 ?_ | refine sct ?_ | refine scf ?_ | refine sgr ?_) | fail)
  refine sw_alloc fun b => ?_
  repeat' (first | with_reducible (first | refine go1 ?_ | refine sct ?_ | refine scf ?_ | refine sgr ?_) | ((with_reducible refine sw_call (wNone_ok p L) ?_); rintro _ _ ⟨rfl, rfl⟩) | fail)
  unfold Mk.cs
  refine sw_store_agg ?_
  repeat' (first | with_reducible (first | refine go1 ?_ | refine sct ?_ | refine scf ?_ | refine sgr ?_) | fail)
  refine sq_resA Try.results44 (by first | exact .inl rfl | exact .inr rfl) rfl ?_
  refine ⟨_, ⟨rfl, rfl⟩, ?_⟩
  repeat' (first | with_reducible exact Ent.refl _ | with_reducible refine Ent.take_eq ?_ ?_ | rfl | with_reducible refine Ent.oR ?_ | with_reducible refine Ent.trans (Ent.drop _ _) ?_)
end
end Go.Gsl

namespace Go.Gsl
set_option linter.unusedVariables false
open Go.Proofs
set_option maxHeartbeats 4000000
section
variable (p : Nat) (L : Lg)
theorem wLimit_ok (hW : L.Wf) : Spec Try.prog 78 [.pointer (some ⟨p, 0, none⟩)] [p] [LOG p L] fun F w Rs' => w = .int .i64 L.limit ∧ Rs' = (p, LOG p L) :: F := by
  refine spec_of Try.func78 rfl Try.ntmps78 rfl ?_
  intro w0 F
  have hb := hW.b
  obtain ⟨⟨h1, h1'⟩, _⟩ := hW.first
  have hn := hW.n1
  repeat' (first | with_reducible (first | refine go1 ?_ | refine sct ?_ | refine scf ?_ | refine sgr ?_) | fail)
  refine sc_lin ([(p, cellF p 2 (.int .i64 L.n))]) (llp 0 (llp 3 (llp 4 (llp 5 (llp 6 (lle 1 (llp 2 (llp 7 (llp 8 (llp 9 ll0)))))))))) (by kernel_rfl) rfl (by kernel_rfl) ?_
  all_goals (iterate 4 refine go1l ?_)
  all_goals refine sl_take (h := runop_loadCell (.int .i64 L.n)) ?_
  all_goals refine sl_eff ?_
  all_goals (repeat' (first | with_reducible (first | refine go1 ?_ | refine sct ?_ | refine scf ?_ | refine sgr ?_) | ((with_reducible refine sw_call (wFirst_ok p L) ?_); rintro _ _ ⟨rfl, rfl⟩) | with_reducible refine sl_back ?_ | fail))
  all_goals refine sl_take (h := runop_field 0 2 rfl) ?_
  all_goals (first | refine sl_in (by omega) ?_ | refine go1l ?_)
  all_goals (first | refine sl_in (by omega) ?_ | refine go1l ?_)
  all_goals refine go1l ?_
  all_goals refine sl_done ?_
  repeat' (first | with_reducible (first | refine go1 ?_ | refine sct ?_ | refine scf ?_ | refine sgr ?_) | fail)
  refine sq_ret1 Try.results78 ?_
  exact ⟨_, ⟨rfl, rfl⟩, Ent.refl _⟩
theorem wFlushed_ok : Spec Try.prog 45 [.pointer (some ⟨p, 0, none⟩)] [p] [LOG p L] fun F w Rs' => w = .int .i64 L.flushed ∧ Rs' = (p, LOG p L) :: F := by
  refine spec_of Try.func45 rfl Try.ntmps45 rfl ?_
  intro w0 F
  repeat' (first | with_reducible (first | refine go1 ?_ | refine sct ?_ | refine scf ?_ | refine sgr ?_) | ((with_reducible refine sw_call (wNone_ok p L) ?_); rintro _ _ ⟨rfl, rfl⟩) | fail)
  refine sq_ret1 Try.results45 ?_
  exact ⟨_, ⟨rfl, rfl⟩, Ent.refl _⟩
theorem wRoom_ok (hW : L.Wf) : Spec Try.prog 46 [.pointer (some ⟨p, 0, none⟩)] [p] [LOG p L] fun F w Rs' => w = .int .i64 (L.limit - L.end) ∧ Rs' = (p, LOG p L) :: F := by
  refine spec_of Try.func46 rfl Try.ntmps46 rfl ?_
  intro w0 F
  have hb := hW.b
  repeat' (first | with_reducible refine sw_i64 (by omega) ?_ | with_reducible (first | refine go1 ?_ | refine sct ?_ | refine scf ?_ | refine sgr ?_) | ((with_reducible refine sw_call (wNone_ok p L) ?_); rintro _ _ ⟨rfl, rfl⟩) | ((with_reducible refine sw_call (wLimit_ok p L hW) ?_); rintro _ _ ⟨rfl, rfl⟩) | ((with_reducible refine sw_call (wEnd_log p L) ?_); rintro _ _ ⟨rfl, rfl⟩) | fail)
  refine sq_ret1 Try.results46 ?_
  exact ⟨_, ⟨rfl, rfl⟩, Ent.refl _⟩
theorem wmark_ok (at' number : Int) (ha : 0 ≤ at' ∧ at' ≤ 9007199254740992) : Spec Try.prog 85 [.pointer (some ⟨p, 0, none⟩), .int .i64 at', .int .i64 number] [p] [LOG p L] fun F w Rs' => w = .agg (L.mk' at' number).cs.toArray ∧ Rs' = (p, LOG p L) :: F := by
  refine spec_of Try.func85 rfl Try.ntmps85 rfl ?_
  intro w0 F
  refine LOG.sc p L fun o1 o2 o3 rs hW ho1 ho2 hN hrs => ?_
  have hb := hW.b
  have hr := hW.runs
  have hl2 : o2 = none → L.runs.length = 0 := fun h => by rw [ho2 h]; rfl
  repeat' (first | with_reducible (first | refine go1 ?_ | refine sct ?_ | refine scf ?_ | refine sgr ?_) | fail)
  refine sw_alloc fun b => ?_
  repeat' (first | with_reducible (first | refine go1 ?_ | refine sct ?_ | refine scf ?_ | refine sgr ?_) | fail)
  refine sw_op (h := runop_quo_nn (by omega)) ?_
  repeat' (first | with_reducible refine sw_i64 (by omega) ?_ | with_reducible refine sw_rem_nn (by omega) ?_ | with_reducible (first | refine go1 ?_ | refine sct ?_ | refine scf ?_ | refine sgr ?_) | (with_reducible refine sw_guard_split (fun h => ?_) (fun h => ?_)) <;> (try (exfalso; first | contradiction | omega | exact h Iff.rfl)) | (with_reducible refine sw_pick (fun h => ?_) (fun h => ?_)) <;> (try (exfalso; first | contradiction | omega | exact h Iff.rfl)) | fail)
  · refine sw_op (h := runop_lenV o2 hl2) ?_
    repeat' (first | with_reducible refine sw_i64 (by omega) ?_ | with_reducible refine sw_rem_nn (by omega) ?_ | with_reducible (first | refine go1 ?_ | refine sct ?_ | refine scf ?_ | refine sgr ?_) | (with_reducible refine sw_guard_split (fun h => ?_) (fun h => ?_)) <;> (try (exfalso; first | contradiction | omega | exact h Iff.rfl)) | (with_reducible refine sw_pick (fun h => ?_) (fun h => ?_)) <;> (try (exfalso; first | contradiction | omega | exact h Iff.rfl)) | fail)
    · rcases o2 with _ | ⟨b2, t2⟩
      · have := hl2 rfl
        omega
      obtain ⟨i, hi⟩ : ∃ i : Nat, at' / 482 - L.base = i := ⟨(at' / 482 - L.base).toNat, by omega⟩
      obtain ⟨lst, hlst⟩ : ∃ lst, L.runs[i]? = some lst := ⟨_, List.getElem?_eq_getElem (by omega)⟩
      have hlv : (L.runs.map (Value.int .i64) ++ t2)[i]? = some (.int .i64 lst) := by
        rw [List.getElem?_append_left (by rw [List.length_map]; omega), List.getElem?_map, hlst]; rfl
      rw [vG_some]
      refine sw_op (h := runop_idxV (b := b2) (r := t2) i (by omega)) ?_
      repeat' (first | with_reducible (first | refine go1 ?_ | refine sct ?_ | refine scf ?_ | refine sgr ?_) | fail)
      refine sw_op (h := runop_loadAt (.int .i64 lst) hlv) ?_
      repeat' (first | with_reducible refine sw_i64 (by omega) ?_ | with_reducible refine sw_rem_nn (by omega) ?_ | with_reducible (first | refine go1 ?_ | refine sct ?_ | refine scf ?_ | refine sgr ?_) | (with_reducible refine sc_cond (fun h => ?_) (fun h => ?_)) <;> (try (exfalso; first | contradiction | omega | exact h Iff.rfl)) | fail)
      · refine sw_op (h := runop_idxV (b := b2) (r := t2) i (by omega)) ?_
        refine sw_op (h := runop_loadAt (.int .i64 lst) hlv) ?_
        repeat' (first | with_reducible refine sw_i64 (by omega) ?_ | with_reducible refine sw_rem_nn (by omega) ?_ | with_reducible (first | refine go1 ?_ | refine sct ?_ | refine scf ?_ | refine sgr ?_) | (with_reducible refine sc_cond (fun h => ?_) (fun h => ?_)) <;> (try (exfalso; first | contradiction | omega | exact h Iff.rfl)) | fail)
        refine sw_build [.int .i64 (at' / 482), .int .i64 (at' % 482), .int .i64 number, .int .i64 lst] (by kernel_rfl) ?_
        refine sw_store_agg ?_
        repeat' (first | with_reducible (first | refine go1 ?_ | refine sct ?_ | refine scf ?_ | refine sgr ?_) | fail)
        refine sq_resA Try.results85 (by first | exact .inl rfl | exact .inr rfl) rfl ?_
        have hrun : L.runAt (at' / 482 - L.base) = lst := by
          unfold Lg.runAt
          first
            | rw [hi, Int.toNat_natCast, hlst, Option.getD_some]
              split <;> first | rfl | omega
            | rw [if_neg (by omega)]
        refine ⟨_, ⟨by unfold Lg.mk'; rw [hrun]; rfl, rfl⟩, Ent.trans ?_ (LOG.close hW ho1 ho2 hN hrs)⟩
        repeat' (first | with_reducible exact Ent.refl _ | with_reducible refine Ent.take_eq ?_ ?_ | rfl | with_reducible refine Ent.oR ?_ | with_reducible refine Ent.trans (Ent.drop _ _) ?_)
      · refine sw_build [.int .i64 (at' / 482), .int .i64 (at' % 482), .int .i64 number, .int .i64 L.run] (by kernel_rfl) ?_
        refine sw_store_agg ?_
        repeat' (first | with_reducible (first | refine go1 ?_ | refine sct ?_ | refine scf ?_ | refine sgr ?_) | fail)
        refine sq_resA Try.results85 (by first | exact .inl rfl | exact .inr rfl) rfl ?_
        have hrun : L.runAt (at' / 482 - L.base) = L.run := by
          unfold Lg.runAt
          first
            | rw [hi, Int.toNat_natCast, hlst, Option.getD_some]
              split <;> first | rfl | omega
            | rw [if_neg (by omega)]
        refine ⟨_, ⟨by unfold Lg.mk'; rw [hrun]; rfl, rfl⟩, Ent.trans ?_ (LOG.close hW ho1 ho2 hN hrs)⟩
        repeat' (first | with_reducible exact Ent.refl _ | with_reducible refine Ent.take_eq ?_ ?_ | rfl | with_reducible refine Ent.oR ?_ | with_reducible refine Ent.trans (Ent.drop _ _) ?_)
    refine sw_build [.int .i64 (at' / 482), .int .i64 (at' % 482), .int .i64 number, .int .i64 L.run] (by kernel_rfl) ?_
    refine sw_store_agg ?_
    repeat' (first | with_reducible (first | refine go1 ?_ | refine sct ?_ | refine scf ?_ | refine sgr ?_) | fail)
    refine sq_resA Try.results85 (by first | exact .inl rfl | exact .inr rfl) rfl ?_
    have hrun : L.runAt (at' / 482 - L.base) = L.run := by
      unfold Lg.runAt
      first
        | rw [hi, Int.toNat_natCast, hlst, Option.getD_some]
          split <;> first | rfl | omega
        | rw [if_neg (by omega)]
    refine ⟨_, ⟨by unfold Lg.mk'; rw [hrun]; rfl, rfl⟩, Ent.trans ?_ (LOG.close hW ho1 ho2 hN hrs)⟩
    repeat' (first | with_reducible exact Ent.refl _ | with_reducible refine Ent.take_eq ?_ ?_ | rfl | with_reducible refine Ent.oR ?_ | with_reducible refine Ent.trans (Ent.drop _ _) ?_)
  refine sw_build [.int .i64 (at' / 482), .int .i64 (at' % 482), .int .i64 number, .int .i64 L.run] (by kernel_rfl) ?_
  refine sw_store_agg ?_
  repeat' (first | with_reducible (first | refine go1 ?_ | refine sct ?_ | refine scf ?_ | refine sgr ?_) | fail)
  refine sq_resA Try.results85 (by first | exact .inl rfl | exact .inr rfl) rfl ?_
  have hrun : L.runAt (at' / 482 - L.base) = L.run := by
    unfold Lg.runAt
    first
      | rw [hi, Int.toNat_natCast, hlst, Option.getD_some]
        split <;> first | rfl | omega
      | rw [if_neg (by omega)]
  refine ⟨_, ⟨by unfold Lg.mk'; rw [hrun]; rfl, rfl⟩, Ent.trans ?_ (LOG.close hW ho1 ho2 hN hrs)⟩
  repeat' (first | with_reducible exact Ent.refl _ | with_reducible refine Ent.take_eq ?_ ?_ | rfl | with_reducible refine Ent.oR ?_ | with_reducible refine Ent.trans (Ent.drop _ _) ?_)
end
end Go.Gsl

namespace Go.Gsl
set_option linter.unusedVariables false
open Go.Proofs
set_option maxHeartbeats 4000000
theorem Bag.two {k1 k2 : Nat} {A B : List (Value × List Int)} {F : List Res} : Ent ((k1, Bag A) :: (k2, Bag B) :: F) ((k1, Bag (A ++ B)) :: F) :=
  Ent.join fun x y hd hx hy p hp => by
    rcases List.mem_append.1 hp with h | h
    · rcases hx p h with h1 | h1
      · exact .inl h1
      · exact .inr h1.left
    · rcases hy p h with h1 | h1
      · exact .inl h1
      · exact .inr (h1.right hd)
/-- slices.Clone, held as it is from there on -/
theorem clF_ok (k : Nat) (r : HProp) (v : Value) (bs : List Int) (hv : RdB r v bs) (hl : bs.length ≤ 140737488355328) :
    Spec Try.prog 59 [v] [k] [r] fun F w Rs' => ∃ a c, w = .slice a bs.length c ∧ Rs' = (7005, Bag [(w, bs)]) :: (k, r) :: F := by
  obtain ⟨a, c, rfl, hs, hc, hr⟩ := hv.gen
  intro w0 F w hw
  refine Calls.mono (clB_ok k r a bs.length c (bs.map (Value.int .u8)) hr (one_ints _ _) (by rw [List.length_map]) hl w0 F w hw) ?_
  rintro x w' ⟨v, Rs', rfl, (⟨h1, rfl, rfl⟩ | ⟨_, b, t, rfl, rfl⟩), hw'⟩
  · have hb : bs = [] := by
      rcases Nat.eq_zero_or_pos bs.length with h | h
      · exact List.eq_nil_of_length_eq_zero h
      · obtain ⟨b, o, h2⟩ := hs h
        rw [h1] at h2
        cases h2
    subst hb
    refine ⟨_, _, rfl, ⟨none, 0, rfl, rfl⟩, hw'.ent ?_⟩
    intro h hh
    exact ⟨fun _ => none, h, fun _ => .inl rfl, by funext i; simp [hjoin], fun p hp => by rw [List.mem_singleton.1 hp]; exact .inl ⟨rfl, rfl⟩, hh⟩
  · refine ⟨_, _, rfl, ⟨_, _, rfl, rfl⟩, (hw'.freeze (Take.here _ _ _)).ent (Ent.head fun h hh p hp => ?_)⟩
    rw [List.mem_singleton.1 hp]
    exact .inr ⟨b, t, rfl, hh⟩
def Lg.app (L : Lg) (bs : List Int) : Int × Int × Lg :=
  if 65536 < bs.length then (0, 3, L)
  else if L.limit < L.end + (frame bs).length ∨ 1099511627776 < (L.end + (frame bs).length - 1) / 482 ∨ 1099511627776 < L.next then (0, 5, L)
  else (L.next, 0, { L with l := L.l ++ [(L.end, bs)], row := L.row ++ frame bs, dirty := true })
theorem Lg.app_wf {L : Lg} {bs : List Int} (hW : L.Wf) (hb : Byt bs) : (L.app bs).2.2.Wf := by
  unfold Lg.app
  split
  · exact hW
  split
  · exact hW
  rename_i h1 h2
  have h3 := hW.b
  have h4 := hW.base
  unfold Lg.limit Lg.end Lg.next at h2
  exact { hW with
    row := by show (L.row ++ frame bs).length ≤ L.n * 482; rw [List.length_append]; omega
    byt := hW.byt.app (frame_byt hb)
    recs := fun r hr => by
      rcases List.mem_append.1 hr with h | h
      · exact hW.recs r h
      · rw [List.mem_singleton.1 h]; exact ⟨hb, by show bs.length ≤ 65536; omega⟩
    many := by show (L.l ++ [_]).length ≤ _; rw [List.length_append, List.length_singleton]; omega }
section
variable (p : Nat) (L : Lg)
theorem wAppend_ok (hW : L.Wf) (k : Nat) (r : HProp) (v : Value) (bs : List Int) (hv : RdB r v bs) (hb : Byt bs) (hl : bs.length ≤ 140737488355328) : Spec Try.prog 34 [.pointer (some ⟨p, 0, none⟩), v] [p, k] [LOG p L, r]
    fun F w Rs' => w = .tuple #[.int .i64 (L.app bs).1, .int .i64 (L.app bs).2.1] ∧ Rs' = (p, LOG p (L.app bs).2.2) :: (k, r) :: F := by
  refine spec_of Try.func34 rfl Try.ntmps34 rfl ?_
  intro w0 F
  have hb3 := hW.b
  have hww := Lg.app_wf hW hb
  obtain ⟨a, c, rfl, hsome, hc, hr⟩ := hv.gen
  unfold Lg.app at hww ⊢
  repeat' (first | with_reducible refine sw_i64 (by omega) ?_ | with_reducible (first | refine go1 ?_ | refine sct ?_ | refine scf ?_ | refine sgr ?_) | ((with_reducible refine sw_call (wNone_ok p L) ?_); rintro _ _ ⟨rfl, rfl⟩) | (with_reducible refine sc_cond (fun h => ?_) (fun h => ?_)) <;> (try (exfalso; first | contradiction | omega | exact h Iff.rfl)) | fail)
  · rw [if_pos (by omega)]
    refine sq_ret2 Try.results34 ?_
    refine ⟨_, ⟨rfl, rfl⟩, ?_⟩
    repeat' (first | with_reducible exact Ent.refl _ | with_reducible refine Ent.take_eq ?_ ?_ | rfl | with_reducible refine Ent.oR ?_ | with_reducible refine Ent.trans (Ent.drop _ _) ?_)
  rw [if_neg (by omega)] at hww ⊢
  refine sw_call (cFrame_ok k r _ bs hv hb (by omega)) ?_
  rintro _ _ (⟨h1, _⟩ | ⟨_, b2, t2, rfl, rfl⟩)
  · omega
  have hfl := frame_len bs
  have hwd := width_in bs.length
  repeat' (first | with_reducible refine sw_i64 (by omega) ?_ | with_reducible (first | refine go1 ?_ | refine sct ?_ | refine scf ?_ | refine sgr ?_) | with_reducible refine sw_op (h := runop_quo_nn (by omega)) ?_ | ((with_reducible refine sw_call (wLimit_ok p L hW) ?_); rintro _ _ ⟨rfl, rfl⟩) | ((with_reducible refine sw_call (wEnd_log p L) ?_); rintro _ _ ⟨rfl, rfl⟩) | ((with_reducible refine sw_call (wNext_log p L) ?_); rintro _ _ ⟨rfl, rfl⟩) | (with_reducible refine sc_cond (fun h => ?_) (fun h => ?_)) <;> (try (exfalso; first | contradiction | omega | exact h Iff.rfl)) | (with_reducible refine sw_guard_split (fun h => ?_) (fun h => ?_)) <;> (try (exfalso; first | contradiction | omega | exact h Iff.rfl)) | (with_reducible refine sw_pick (fun h => ?_) (fun h => ?_)) <;> (try (exfalso; first | contradiction | omega | exact h Iff.rfl)) | fail)
  · rw [if_pos (.inl h)]
    refine sq_ret2 Try.results34 ?_
    refine ⟨_, ⟨rfl, rfl⟩, ?_⟩
    repeat' (first | with_reducible exact Ent.refl _ | with_reducible refine Ent.take_eq ?_ ?_ | rfl | with_reducible refine Ent.oR ?_ | with_reducible refine Ent.trans (Ent.drop _ _) ?_)
  · rw [if_pos (.inr (.inl h))]
    refine sq_ret2 Try.results34 ?_
    refine ⟨_, ⟨rfl, rfl⟩, ?_⟩
    repeat' (first | with_reducible exact Ent.refl _ | with_reducible refine Ent.take_eq ?_ ?_ | rfl | with_reducible refine Ent.oR ?_ | with_reducible refine Ent.trans (Ent.drop _ _) ?_)
  · rw [if_pos (.inr (.inr h))]
    refine sq_ret2 Try.results34 ?_
    refine ⟨_, ⟨rfl, rfl⟩, ?_⟩
    repeat' (first | with_reducible exact Ent.refl _ | with_reducible refine Ent.take_eq ?_ ?_ | rfl | with_reducible refine Ent.oR ?_ | with_reducible refine Ent.trans (Ent.drop _ _) ?_)
  rw [if_neg (by rintro (h | h | h) <;> contradiction)] at hww ⊢
  refine LOG.sc p L fun o1 o2 o3 rs _ ho1 ho2 hN hrs => ?_
  have hmany := hW.many
  have hll : rs.length = L.l.length := by rw [← hrs, List.length_map]
  have hl1 : o1 = none → L.row.length = 0 := fun h => by rw [ho1 h]; rfl
  refine sc_drawC (m := 15) ([]) CalmC.out (by kernel_rfl) rfl (fun hcalm => ?_)
  all_goals (first | refine sg_take 0 hcalm rfl (by kernel_rfl) (by kernel_rfl) (by kernel_rfl) ?_)
  all_goals (first | refine sg_take 1 hcalm rfl (by kernel_rfl) (by kernel_rfl) (by kernel_rfl) ?_)
  all_goals (first | refine sg_take 2 hcalm rfl (by kernel_rfl) (by kernel_rfl) (by kernel_rfl) ?_)
  all_goals (first | refine sg_take 3 hcalm rfl (by kernel_rfl) (by kernel_rfl) (by kernel_rfl) ?_)
  all_goals (first | refine sg_take 5 hcalm rfl (by kernel_rfl) (by kernel_rfl) (by kernel_rfl) ?_)
  all_goals (first | refine sg_take 7 hcalm rfl (by kernel_rfl) (by kernel_rfl) (by kernel_rfl) ?_)
  refine sg_two 4 6 rfl rfl (by kernel_rfl) rfl ?g1a ?g1b
  case' g1a =>
    all_goals (repeat' (first | with_reducible (first | refine go1 ?_ | refine sct ?_ | refine scf ?_ | refine sgr ?_) | with_reducible refine sw_store ?_ | ((with_reducible refine sw_call (wEnd_ok p L.d L.f L.n L.run L.began L.base L.row.length o1 (bufV L.runs.length o2) L.first L.sure L.flushed L.dirty hl1 (by omega) (nV rs.length o3)) ?_); rintro _ _ ⟨rfl, rfl⟩) | ((with_reducible refine sw_call (clF_ok k r _ bs hv (by omega)) ?_); rintro _ _ ⟨a2, c2, rfl, rfl⟩) | with_reducible refine sw_buildSliceN [Value.int .i64 (L.base * 482 + L.row.length), .slice a2 bs.length c2] ⟨by omega, by omega, by omega⟩ (by kernel_rfl) fun b9 => ?_ | with_reducible refine sw_appendNV (b7 := b9) (rall rs) [Value.int .i64 (L.base * 482 + L.row.length), .slice a2 bs.length c2] rs.length o3 hN (two_one _ _ _ _ _) (by kernel_rfl) (by omega) ⟨two_len _ _, by omega, by omega⟩ fun o3' hn3 hN' => ?_ | with_reducible refine sg_back ?_ | fail))
    all_goals (refine sg_one 6 rfl (by kernel_rfl) rfl ?_)
    all_goals (repeat' (first | with_reducible (first | refine go1 ?_ | refine sct ?_ | refine scf ?_ | refine sgr ?_) | with_reducible refine sw_store ?_ | ((with_reducible refine sw_call (wEnd_ok p L.d L.f L.n L.run L.began L.base L.row.length o1 (bufV L.runs.length o2) L.first L.sure L.flushed L.dirty hl1 (by omega) (nV rs.length o3)) ?_); rintro _ _ ⟨rfl, rfl⟩) | ((with_reducible refine sw_call (clF_ok k r _ bs hv (by omega)) ?_); rintro _ _ ⟨a2, c2, rfl, rfl⟩) | with_reducible refine sw_buildSliceN [Value.int .i64 (L.base * 482 + L.row.length), .slice a2 bs.length c2] ⟨by omega, by omega, by omega⟩ (by kernel_rfl) fun b9 => ?_ | with_reducible refine sw_appendNV (b7 := b9) (rall rs) [Value.int .i64 (L.base * 482 + L.row.length), .slice a2 bs.length c2] rs.length o3 hN (two_one _ _ _ _ _) (by kernel_rfl) (by omega) ⟨two_len _ _, by omega, by omega⟩ fun o3' hn3 hN' => ?_ | with_reducible refine sg_back ?_ | fail))
    all_goals (refine sg_one 8 rfl (by kernel_rfl) rfl ?_)
    all_goals (repeat' (first | with_reducible (first | refine go1 ?_ | refine sct ?_ | refine scf ?_ | refine sgr ?_) | with_reducible refine sw_store ?_ | ((with_reducible refine sw_call (wEnd_ok p L.d L.f L.n L.run L.began L.base L.row.length o1 (bufV L.runs.length o2) L.first L.sure L.flushed L.dirty hl1 (by omega) (nV rs.length o3)) ?_); rintro _ _ ⟨rfl, rfl⟩) | ((with_reducible refine sw_call (clF_ok k r _ bs hv (by omega)) ?_); rintro _ _ ⟨a2, c2, rfl, rfl⟩) | with_reducible refine sw_buildSliceN [Value.int .i64 (L.base * 482 + L.row.length), .slice a2 bs.length c2] ⟨by omega, by omega, by omega⟩ (by kernel_rfl) fun b9 => ?_ | with_reducible refine sw_appendNV (b7 := b9) (rall rs) [Value.int .i64 (L.base * 482 + L.row.length), .slice a2 bs.length c2] rs.length o3 hN (two_one _ _ _ _ _) (by kernel_rfl) (by omega) ⟨two_len _ _, by omega, by omega⟩ fun o3' hn3 hN' => ?_ | with_reducible refine sg_back ?_ | fail))
    all_goals (first | refine sg_take 9 hcalm rfl (by kernel_rfl) (by kernel_rfl) (by kernel_rfl) (h := runop_buildR [Value.int .i64 (L.base * 482 + L.row.length), .slice a2 bs.length c2] (by kernel_rfl)) ?_ | refine sg_take 9 hcalm rfl (by kernel_rfl) (by kernel_rfl) (by kernel_rfl) ?_)
    all_goals (refine sg_one 10 rfl (by kernel_rfl) rfl ?_)
    all_goals (repeat' (first | with_reducible (first | refine go1 ?_ | refine sct ?_ | refine scf ?_ | refine sgr ?_) | with_reducible refine sw_store ?_ | ((with_reducible refine sw_call (wEnd_ok p L.d L.f L.n L.run L.began L.base L.row.length o1 (bufV L.runs.length o2) L.first L.sure L.flushed L.dirty hl1 (by omega) (nV rs.length o3)) ?_); rintro _ _ ⟨rfl, rfl⟩) | ((with_reducible refine sw_call (clF_ok k r _ bs hv (by omega)) ?_); rintro _ _ ⟨a2, c2, rfl, rfl⟩) | with_reducible refine sw_buildSliceN [Value.int .i64 (L.base * 482 + L.row.length), .slice a2 bs.length c2] ⟨by omega, by omega, by omega⟩ (by kernel_rfl) fun b9 => ?_ | with_reducible refine sw_appendNV (b7 := b9) (rall rs) [Value.int .i64 (L.base * 482 + L.row.length), .slice a2 bs.length c2] rs.length o3 hN (two_one _ _ _ _ _) (by kernel_rfl) (by omega) ⟨two_len _ _, by omega, by omega⟩ fun o3' hn3 hN' => ?_ | with_reducible refine sg_back ?_ | fail))
    all_goals (refine sg_one 11 rfl (by kernel_rfl) rfl ?_)
    all_goals (repeat' (first | with_reducible (first | refine go1 ?_ | refine sct ?_ | refine scf ?_ | refine sgr ?_) | with_reducible refine sw_store ?_ | ((with_reducible refine sw_call (wEnd_ok p L.d L.f L.n L.run L.began L.base L.row.length o1 (bufV L.runs.length o2) L.first L.sure L.flushed L.dirty hl1 (by omega) (nV rs.length o3)) ?_); rintro _ _ ⟨rfl, rfl⟩) | ((with_reducible refine sw_call (clF_ok k r _ bs hv (by omega)) ?_); rintro _ _ ⟨a2, c2, rfl, rfl⟩) | with_reducible refine sw_buildSliceN [Value.int .i64 (L.base * 482 + L.row.length), .slice a2 bs.length c2] ⟨by omega, by omega, by omega⟩ (by kernel_rfl) fun b9 => ?_ | with_reducible refine sw_appendNV (b7 := b9) (rall rs) [Value.int .i64 (L.base * 482 + L.row.length), .slice a2 bs.length c2] rs.length o3 hN (two_one _ _ _ _ _) (by kernel_rfl) (by omega) ⟨two_len _ _, by omega, by omega⟩ fun o3' hn3 hN' => ?_ | with_reducible refine sg_back ?_ | fail))
    all_goals (first | refine sg_take 12 hcalm rfl (by kernel_rfl) (by kernel_rfl) (by kernel_rfl) ?_)
    all_goals (first | refine sg_take 13 hcalm rfl (by kernel_rfl) (by kernel_rfl) (by kernel_rfl) ?_)
    all_goals (refine sg_one 14 rfl (by kernel_rfl) rfl ?_)
    all_goals (repeat' (first | with_reducible (first | refine go1 ?_ | refine sct ?_ | refine scf ?_ | refine sgr ?_) | with_reducible refine sw_store ?_ | ((with_reducible refine sw_call (wEnd_ok p L.d L.f L.n L.run L.began L.base L.row.length o1 (bufV L.runs.length o2) L.first L.sure L.flushed L.dirty hl1 (by omega) (nV rs.length o3)) ?_); rintro _ _ ⟨rfl, rfl⟩) | ((with_reducible refine sw_call (clF_ok k r _ bs hv (by omega)) ?_); rintro _ _ ⟨a2, c2, rfl, rfl⟩) | with_reducible refine sw_buildSliceN [Value.int .i64 (L.base * 482 + L.row.length), .slice a2 bs.length c2] ⟨by omega, by omega, by omega⟩ (by kernel_rfl) fun b9 => ?_ | with_reducible refine sw_appendNV (b7 := b9) (rall rs) [Value.int .i64 (L.base * 482 + L.row.length), .slice a2 bs.length c2] rs.length o3 hN (two_one _ _ _ _ _) (by kernel_rfl) (by omega) ⟨two_len _ _, by omega, by omega⟩ fun o3' hn3 hN' => ?_ | with_reducible refine sg_back ?_ | fail))
    all_goals (refine sg_done (by kernel_rfl) rfl ?_)
  case' g1b =>
    all_goals (repeat' (first | with_reducible (first | refine go1 ?_ | refine sct ?_ | refine scf ?_ | refine sgr ?_) | with_reducible refine sw_store ?_ | ((with_reducible refine sw_call (wEnd_ok p L.d L.f L.n L.run L.began L.base L.row.length o1 (bufV L.runs.length o2) L.first L.sure L.flushed L.dirty hl1 (by omega) (nV rs.length o3)) ?_); rintro _ _ ⟨rfl, rfl⟩) | ((with_reducible refine sw_call (clF_ok k r _ bs hv (by omega)) ?_); rintro _ _ ⟨a2, c2, rfl, rfl⟩) | with_reducible refine sw_buildSliceN [Value.int .i64 (L.base * 482 + L.row.length), .slice a2 bs.length c2] ⟨by omega, by omega, by omega⟩ (by kernel_rfl) fun b9 => ?_ | with_reducible refine sw_appendNV (b7 := b9) (rall rs) [Value.int .i64 (L.base * 482 + L.row.length), .slice a2 bs.length c2] rs.length o3 hN (two_one _ _ _ _ _) (by kernel_rfl) (by omega) ⟨two_len _ _, by omega, by omega⟩ fun o3' hn3 hN' => ?_ | with_reducible refine sg_back ?_ | fail))
    refine sg_two 4 8 rfl rfl (by kernel_rfl) rfl ?g2a ?g2b
    case' g2a =>
      all_goals (repeat' (first | with_reducible (first | refine go1 ?_ | refine sct ?_ | refine scf ?_ | refine sgr ?_) | with_reducible refine sw_store ?_ | ((with_reducible refine sw_call (wEnd_ok p L.d L.f L.n L.run L.began L.base L.row.length o1 (bufV L.runs.length o2) L.first L.sure L.flushed L.dirty hl1 (by omega) (nV rs.length o3)) ?_); rintro _ _ ⟨rfl, rfl⟩) | ((with_reducible refine sw_call (clF_ok k r _ bs hv (by omega)) ?_); rintro _ _ ⟨a2, c2, rfl, rfl⟩) | with_reducible refine sw_buildSliceN [Value.int .i64 (L.base * 482 + L.row.length), .slice a2 bs.length c2] ⟨by omega, by omega, by omega⟩ (by kernel_rfl) fun b9 => ?_ | with_reducible refine sw_appendNV (b7 := b9) (rall rs) [Value.int .i64 (L.base * 482 + L.row.length), .slice a2 bs.length c2] rs.length o3 hN (two_one _ _ _ _ _) (by kernel_rfl) (by omega) ⟨two_len _ _, by omega, by omega⟩ fun o3' hn3 hN' => ?_ | with_reducible refine sg_back ?_ | fail))
      all_goals (refine sg_one 8 rfl (by kernel_rfl) rfl ?_)
      all_goals (repeat' (first | with_reducible (first | refine go1 ?_ | refine sct ?_ | refine scf ?_ | refine sgr ?_) | with_reducible refine sw_store ?_ | ((with_reducible refine sw_call (wEnd_ok p L.d L.f L.n L.run L.began L.base L.row.length o1 (bufV L.runs.length o2) L.first L.sure L.flushed L.dirty hl1 (by omega) (nV rs.length o3)) ?_); rintro _ _ ⟨rfl, rfl⟩) | ((with_reducible refine sw_call (clF_ok k r _ bs hv (by omega)) ?_); rintro _ _ ⟨a2, c2, rfl, rfl⟩) | with_reducible refine sw_buildSliceN [Value.int .i64 (L.base * 482 + L.row.length), .slice a2 bs.length c2] ⟨by omega, by omega, by omega⟩ (by kernel_rfl) fun b9 => ?_ | with_reducible refine sw_appendNV (b7 := b9) (rall rs) [Value.int .i64 (L.base * 482 + L.row.length), .slice a2 bs.length c2] rs.length o3 hN (two_one _ _ _ _ _) (by kernel_rfl) (by omega) ⟨two_len _ _, by omega, by omega⟩ fun o3' hn3 hN' => ?_ | with_reducible refine sg_back ?_ | fail))
      all_goals (first | refine sg_take 9 hcalm rfl (by kernel_rfl) (by kernel_rfl) (by kernel_rfl) (h := runop_buildR [Value.int .i64 (L.base * 482 + L.row.length), .slice a2 bs.length c2] (by kernel_rfl)) ?_ | refine sg_take 9 hcalm rfl (by kernel_rfl) (by kernel_rfl) (by kernel_rfl) ?_)
      all_goals (refine sg_one 10 rfl (by kernel_rfl) rfl ?_)
      all_goals (repeat' (first | with_reducible (first | refine go1 ?_ | refine sct ?_ | refine scf ?_ | refine sgr ?_) | with_reducible refine sw_store ?_ | ((with_reducible refine sw_call (wEnd_ok p L.d L.f L.n L.run L.began L.base L.row.length o1 (bufV L.runs.length o2) L.first L.sure L.flushed L.dirty hl1 (by omega) (nV rs.length o3)) ?_); rintro _ _ ⟨rfl, rfl⟩) | ((with_reducible refine sw_call (clF_ok k r _ bs hv (by omega)) ?_); rintro _ _ ⟨a2, c2, rfl, rfl⟩) | with_reducible refine sw_buildSliceN [Value.int .i64 (L.base * 482 + L.row.length), .slice a2 bs.length c2] ⟨by omega, by omega, by omega⟩ (by kernel_rfl) fun b9 => ?_ | with_reducible refine sw_appendNV (b7 := b9) (rall rs) [Value.int .i64 (L.base * 482 + L.row.length), .slice a2 bs.length c2] rs.length o3 hN (two_one _ _ _ _ _) (by kernel_rfl) (by omega) ⟨two_len _ _, by omega, by omega⟩ fun o3' hn3 hN' => ?_ | with_reducible refine sg_back ?_ | fail))
      all_goals (refine sg_one 11 rfl (by kernel_rfl) rfl ?_)
      all_goals (repeat' (first | with_reducible (first | refine go1 ?_ | refine sct ?_ | refine scf ?_ | refine sgr ?_) | with_reducible refine sw_store ?_ | ((with_reducible refine sw_call (wEnd_ok p L.d L.f L.n L.run L.began L.base L.row.length o1 (bufV L.runs.length o2) L.first L.sure L.flushed L.dirty hl1 (by omega) (nV rs.length o3)) ?_); rintro _ _ ⟨rfl, rfl⟩) | ((with_reducible refine sw_call (clF_ok k r _ bs hv (by omega)) ?_); rintro _ _ ⟨a2, c2, rfl, rfl⟩) | with_reducible refine sw_buildSliceN [Value.int .i64 (L.base * 482 + L.row.length), .slice a2 bs.length c2] ⟨by omega, by omega, by omega⟩ (by kernel_rfl) fun b9 => ?_ | with_reducible refine sw_appendNV (b7 := b9) (rall rs) [Value.int .i64 (L.base * 482 + L.row.length), .slice a2 bs.length c2] rs.length o3 hN (two_one _ _ _ _ _) (by kernel_rfl) (by omega) ⟨two_len _ _, by omega, by omega⟩ fun o3' hn3 hN' => ?_ | with_reducible refine sg_back ?_ | fail))
      all_goals (first | refine sg_take 12 hcalm rfl (by kernel_rfl) (by kernel_rfl) (by kernel_rfl) ?_)
      all_goals (first | refine sg_take 13 hcalm rfl (by kernel_rfl) (by kernel_rfl) (by kernel_rfl) ?_)
      all_goals (refine sg_one 14 rfl (by kernel_rfl) rfl ?_)
      all_goals (repeat' (first | with_reducible (first | refine go1 ?_ | refine sct ?_ | refine scf ?_ | refine sgr ?_) | with_reducible refine sw_store ?_ | ((with_reducible refine sw_call (wEnd_ok p L.d L.f L.n L.run L.began L.base L.row.length o1 (bufV L.runs.length o2) L.first L.sure L.flushed L.dirty hl1 (by omega) (nV rs.length o3)) ?_); rintro _ _ ⟨rfl, rfl⟩) | ((with_reducible refine sw_call (clF_ok k r _ bs hv (by omega)) ?_); rintro _ _ ⟨a2, c2, rfl, rfl⟩) | with_reducible refine sw_buildSliceN [Value.int .i64 (L.base * 482 + L.row.length), .slice a2 bs.length c2] ⟨by omega, by omega, by omega⟩ (by kernel_rfl) fun b9 => ?_ | with_reducible refine sw_appendNV (b7 := b9) (rall rs) [Value.int .i64 (L.base * 482 + L.row.length), .slice a2 bs.length c2] rs.length o3 hN (two_one _ _ _ _ _) (by kernel_rfl) (by omega) ⟨two_len _ _, by omega, by omega⟩ fun o3' hn3 hN' => ?_ | with_reducible refine sg_back ?_ | fail))
      all_goals (refine sg_done (by kernel_rfl) rfl ?_)
    case' g2b =>
      all_goals (repeat' (first | with_reducible (first | refine go1 ?_ | refine sct ?_ | refine scf ?_ | refine sgr ?_) | with_reducible refine sw_store ?_ | ((with_reducible refine sw_call (wEnd_ok p L.d L.f L.n L.run L.began L.base L.row.length o1 (bufV L.runs.length o2) L.first L.sure L.flushed L.dirty hl1 (by omega) (nV rs.length o3)) ?_); rintro _ _ ⟨rfl, rfl⟩) | ((with_reducible refine sw_call (clF_ok k r _ bs hv (by omega)) ?_); rintro _ _ ⟨a2, c2, rfl, rfl⟩) | with_reducible refine sw_buildSliceN [Value.int .i64 (L.base * 482 + L.row.length), .slice a2 bs.length c2] ⟨by omega, by omega, by omega⟩ (by kernel_rfl) fun b9 => ?_ | with_reducible refine sw_appendNV (b7 := b9) (rall rs) [Value.int .i64 (L.base * 482 + L.row.length), .slice a2 bs.length c2] rs.length o3 hN (two_one _ _ _ _ _) (by kernel_rfl) (by omega) ⟨two_len _ _, by omega, by omega⟩ fun o3' hn3 hN' => ?_ | with_reducible refine sg_back ?_ | fail))
      all_goals (first | refine sg_take 9 hcalm rfl (by kernel_rfl) (by kernel_rfl) (by kernel_rfl) (h := runop_buildR [Value.int .i64 (L.base * 482 + L.row.length), .slice a2 bs.length c2] (by kernel_rfl)) ?_ | refine sg_take 9 hcalm rfl (by kernel_rfl) (by kernel_rfl) (by kernel_rfl) ?_)
      refine sg_two 4 10 rfl rfl (by kernel_rfl) rfl ?g3a ?g3b
      case' g3a =>
        all_goals (repeat' (first | with_reducible (first | refine go1 ?_ | refine sct ?_ | refine scf ?_ | refine sgr ?_) | with_reducible refine sw_store ?_ | ((with_reducible refine sw_call (wEnd_ok p L.d L.f L.n L.run L.began L.base L.row.length o1 (bufV L.runs.length o2) L.first L.sure L.flushed L.dirty hl1 (by omega) (nV rs.length o3)) ?_); rintro _ _ ⟨rfl, rfl⟩) | ((with_reducible refine sw_call (clF_ok k r _ bs hv (by omega)) ?_); rintro _ _ ⟨a2, c2, rfl, rfl⟩) | with_reducible refine sw_buildSliceN [Value.int .i64 (L.base * 482 + L.row.length), .slice a2 bs.length c2] ⟨by omega, by omega, by omega⟩ (by kernel_rfl) fun b9 => ?_ | with_reducible refine sw_appendNV (b7 := b9) (rall rs) [Value.int .i64 (L.base * 482 + L.row.length), .slice a2 bs.length c2] rs.length o3 hN (two_one _ _ _ _ _) (by kernel_rfl) (by omega) ⟨two_len _ _, by omega, by omega⟩ fun o3' hn3 hN' => ?_ | with_reducible refine sg_back ?_ | fail))
        all_goals (refine sg_one 10 rfl (by kernel_rfl) rfl ?_)
        all_goals (repeat' (first | with_reducible (first | refine go1 ?_ | refine sct ?_ | refine scf ?_ | refine sgr ?_) | with_reducible refine sw_store ?_ | ((with_reducible refine sw_call (wEnd_ok p L.d L.f L.n L.run L.began L.base L.row.length o1 (bufV L.runs.length o2) L.first L.sure L.flushed L.dirty hl1 (by omega) (nV rs.length o3)) ?_); rintro _ _ ⟨rfl, rfl⟩) | ((with_reducible refine sw_call (clF_ok k r _ bs hv (by omega)) ?_); rintro _ _ ⟨a2, c2, rfl, rfl⟩) | with_reducible refine sw_buildSliceN [Value.int .i64 (L.base * 482 + L.row.length), .slice a2 bs.length c2] ⟨by omega, by omega, by omega⟩ (by kernel_rfl) fun b9 => ?_ | with_reducible refine sw_appendNV (b7 := b9) (rall rs) [Value.int .i64 (L.base * 482 + L.row.length), .slice a2 bs.length c2] rs.length o3 hN (two_one _ _ _ _ _) (by kernel_rfl) (by omega) ⟨two_len _ _, by omega, by omega⟩ fun o3' hn3 hN' => ?_ | with_reducible refine sg_back ?_ | fail))
        all_goals (refine sg_one 11 rfl (by kernel_rfl) rfl ?_)
        all_goals (repeat' (first | with_reducible (first | refine go1 ?_ | refine sct ?_ | refine scf ?_ | refine sgr ?_) | with_reducible refine sw_store ?_ | ((with_reducible refine sw_call (wEnd_ok p L.d L.f L.n L.run L.began L.base L.row.length o1 (bufV L.runs.length o2) L.first L.sure L.flushed L.dirty hl1 (by omega) (nV rs.length o3)) ?_); rintro _ _ ⟨rfl, rfl⟩) | ((with_reducible refine sw_call (clF_ok k r _ bs hv (by omega)) ?_); rintro _ _ ⟨a2, c2, rfl, rfl⟩) | with_reducible refine sw_buildSliceN [Value.int .i64 (L.base * 482 + L.row.length), .slice a2 bs.length c2] ⟨by omega, by omega, by omega⟩ (by kernel_rfl) fun b9 => ?_ | with_reducible refine sw_appendNV (b7 := b9) (rall rs) [Value.int .i64 (L.base * 482 + L.row.length), .slice a2 bs.length c2] rs.length o3 hN (two_one _ _ _ _ _) (by kernel_rfl) (by omega) ⟨two_len _ _, by omega, by omega⟩ fun o3' hn3 hN' => ?_ | with_reducible refine sg_back ?_ | fail))
        all_goals (first | refine sg_take 12 hcalm rfl (by kernel_rfl) (by kernel_rfl) (by kernel_rfl) ?_)
        all_goals (first | refine sg_take 13 hcalm rfl (by kernel_rfl) (by kernel_rfl) (by kernel_rfl) ?_)
        all_goals (refine sg_one 14 rfl (by kernel_rfl) rfl ?_)
        all_goals (repeat' (first | with_reducible (first | refine go1 ?_ | refine sct ?_ | refine scf ?_ | refine sgr ?_) | with_reducible refine sw_store ?_ | ((with_reducible refine sw_call (wEnd_ok p L.d L.f L.n L.run L.began L.base L.row.length o1 (bufV L.runs.length o2) L.first L.sure L.flushed L.dirty hl1 (by omega) (nV rs.length o3)) ?_); rintro _ _ ⟨rfl, rfl⟩) | ((with_reducible refine sw_call (clF_ok k r _ bs hv (by omega)) ?_); rintro _ _ ⟨a2, c2, rfl, rfl⟩) | with_reducible refine sw_buildSliceN [Value.int .i64 (L.base * 482 + L.row.length), .slice a2 bs.length c2] ⟨by omega, by omega, by omega⟩ (by kernel_rfl) fun b9 => ?_ | with_reducible refine sw_appendNV (b7 := b9) (rall rs) [Value.int .i64 (L.base * 482 + L.row.length), .slice a2 bs.length c2] rs.length o3 hN (two_one _ _ _ _ _) (by kernel_rfl) (by omega) ⟨two_len _ _, by omega, by omega⟩ fun o3' hn3 hN' => ?_ | with_reducible refine sg_back ?_ | fail))
        all_goals (refine sg_done (by kernel_rfl) rfl ?_)
      case' g3b =>
        all_goals (repeat' (first | with_reducible (first | refine go1 ?_ | refine sct ?_ | refine scf ?_ | refine sgr ?_) | with_reducible refine sw_store ?_ | ((with_reducible refine sw_call (wEnd_ok p L.d L.f L.n L.run L.began L.base L.row.length o1 (bufV L.runs.length o2) L.first L.sure L.flushed L.dirty hl1 (by omega) (nV rs.length o3)) ?_); rintro _ _ ⟨rfl, rfl⟩) | ((with_reducible refine sw_call (clF_ok k r _ bs hv (by omega)) ?_); rintro _ _ ⟨a2, c2, rfl, rfl⟩) | with_reducible refine sw_buildSliceN [Value.int .i64 (L.base * 482 + L.row.length), .slice a2 bs.length c2] ⟨by omega, by omega, by omega⟩ (by kernel_rfl) fun b9 => ?_ | with_reducible refine sw_appendNV (b7 := b9) (rall rs) [Value.int .i64 (L.base * 482 + L.row.length), .slice a2 bs.length c2] rs.length o3 hN (two_one _ _ _ _ _) (by kernel_rfl) (by omega) ⟨two_len _ _, by omega, by omega⟩ fun o3' hn3 hN' => ?_ | with_reducible refine sg_back ?_ | fail))
        all_goals (refine sg_one 4 rfl (by kernel_rfl) rfl ?_)
        all_goals (repeat' (first | with_reducible (first | refine go1 ?_ | refine sct ?_ | refine scf ?_ | refine sgr ?_) | with_reducible refine sw_store ?_ | ((with_reducible refine sw_call (wEnd_ok p L.d L.f L.n L.run L.began L.base L.row.length o1 (bufV L.runs.length o2) L.first L.sure L.flushed L.dirty hl1 (by omega) (nV rs.length o3)) ?_); rintro _ _ ⟨rfl, rfl⟩) | ((with_reducible refine sw_call (clF_ok k r _ bs hv (by omega)) ?_); rintro _ _ ⟨a2, c2, rfl, rfl⟩) | with_reducible refine sw_buildSliceN [Value.int .i64 (L.base * 482 + L.row.length), .slice a2 bs.length c2] ⟨by omega, by omega, by omega⟩ (by kernel_rfl) fun b9 => ?_ | with_reducible refine sw_appendNV (b7 := b9) (rall rs) [Value.int .i64 (L.base * 482 + L.row.length), .slice a2 bs.length c2] rs.length o3 hN (two_one _ _ _ _ _) (by kernel_rfl) (by omega) ⟨two_len _ _, by omega, by omega⟩ fun o3' hn3 hN' => ?_ | with_reducible refine sg_back ?_ | fail))
        all_goals (refine sg_one 11 rfl (by kernel_rfl) rfl ?_)
        all_goals (repeat' (first | with_reducible (first | refine go1 ?_ | refine sct ?_ | refine scf ?_ | refine sgr ?_) | with_reducible refine sw_store ?_ | ((with_reducible refine sw_call (wEnd_ok p L.d L.f L.n L.run L.began L.base L.row.length o1 (bufV L.runs.length o2) L.first L.sure L.flushed L.dirty hl1 (by omega) (nV rs.length o3)) ?_); rintro _ _ ⟨rfl, rfl⟩) | ((with_reducible refine sw_call (clF_ok k r _ bs hv (by omega)) ?_); rintro _ _ ⟨a2, c2, rfl, rfl⟩) | with_reducible refine sw_buildSliceN [Value.int .i64 (L.base * 482 + L.row.length), .slice a2 bs.length c2] ⟨by omega, by omega, by omega⟩ (by kernel_rfl) fun b9 => ?_ | with_reducible refine sw_appendNV (b7 := b9) (rall rs) [Value.int .i64 (L.base * 482 + L.row.length), .slice a2 bs.length c2] rs.length o3 hN (two_one _ _ _ _ _) (by kernel_rfl) (by omega) ⟨two_len _ _, by omega, by omega⟩ fun o3' hn3 hN' => ?_ | with_reducible refine sg_back ?_ | fail))
        all_goals (first | refine sg_take 12 hcalm rfl (by kernel_rfl) (by kernel_rfl) (by kernel_rfl) ?_)
        all_goals (first | refine sg_take 13 hcalm rfl (by kernel_rfl) (by kernel_rfl) (by kernel_rfl) ?_)
        all_goals (refine sg_one 14 rfl (by kernel_rfl) rfl ?_)
        all_goals (repeat' (first | with_reducible (first | refine go1 ?_ | refine sct ?_ | refine scf ?_ | refine sgr ?_) | with_reducible refine sw_store ?_ | ((with_reducible refine sw_call (wEnd_ok p L.d L.f L.n L.run L.began L.base L.row.length o1 (bufV L.runs.length o2) L.first L.sure L.flushed L.dirty hl1 (by omega) (nV rs.length o3)) ?_); rintro _ _ ⟨rfl, rfl⟩) | ((with_reducible refine sw_call (clF_ok k r _ bs hv (by omega)) ?_); rintro _ _ ⟨a2, c2, rfl, rfl⟩) | with_reducible refine sw_buildSliceN [Value.int .i64 (L.base * 482 + L.row.length), .slice a2 bs.length c2] ⟨by omega, by omega, by omega⟩ (by kernel_rfl) fun b9 => ?_ | with_reducible refine sw_appendNV (b7 := b9) (rall rs) [Value.int .i64 (L.base * 482 + L.row.length), .slice a2 bs.length c2] rs.length o3 hN (two_one _ _ _ _ _) (by kernel_rfl) (by omega) ⟨two_len _ _, by omega, by omega⟩ fun o3' hn3 hN' => ?_ | with_reducible refine sg_back ?_ | fail))
        all_goals (refine sg_done (by kernel_rfl) rfl ?_)
  all_goals
    repeat' (first | with_reducible (first | refine go1 ?_ | refine sct ?_ | refine scf ?_ | refine sgr ?_) | fail)
    refine sw_appendV (kd := .u8) L.row (frame bs) o1 ho1 (src_pts (b := b2) (r := t2)) ⟨rfl, by omega, by omega⟩ fun o1' ho1' => ?_
    repeat' (first | with_reducible (first | refine go1 ?_ | refine sct ?_ | refine scf ?_ | refine sgr ?_) | with_reducible refine sw_store ?_ | fail)
    refine sq_ret2 Try.results34 ?_
    refine ⟨_, ⟨rfl, rfl⟩, ?_⟩
    have hsn := rall_snoc rs ((L.end, bs), Value.slice a2 bs.length c2)
    have hbn := rbag_snoc rs ((L.end, bs), Value.slice a2 bs.length c2)
    simp only [rcs] at hsn hbn
    refine Ent.trans (Ent.trans (Ent.take (k := 7002) (r' := Bag _) (fun _ h => h) (Ent.take (k := 7005) (r' := Bag _) (fun _ h => h) (Ent.refl _))) Bag.two) ?_
    refine Ent.trans ?_ (LOG.close (L := { L with l := L.l ++ [(L.end, bs)], row := L.row ++ frame bs, dirty := true }) (o1 := o1') (o2 := o2) (o3 := o3') (rs := rs ++ [((L.end, bs), Value.slice a2 bs.length c2)]) hww ?_ ho2 ?_ ?_)
    · dsimp only
      rw [hsn, hbn]
      simp only [List.length_append, List.length_singleton, Lg.end]
      repeat' (first | with_reducible exact Ent.refl _ | with_reducible refine Ent.take_eq ?_ ?_ | rfl | with_reducible refine Ent.oR ?_ | with_reducible refine Ent.trans (Ent.drop _ _) ?_)
    · intro h
      show L.row ++ frame bs = []
      rw [ho1 (ho1'.1 h).1, (ho1'.1 h).2]
      rfl
    · rw [hsn, List.length_append, List.length_singleton]
      exact hN'
    · rw [List.map_append, hrs]
      rfl
end
end Go.Gsl

namespace Go.Gsl
set_option linter.unusedVariables false
open Go.Proofs

/-- a sector's part of the row -/
def Lg.part (L : Lg) (q : Int) : List Int := (L.row.drop ((q - L.base) * 482).toNat).take 482
/-- a sector's bytes -/
def Lg.secB (L : Lg) (q : Int) : List Int := hdSec q L.run L.began (L.part q)
abbrev Lg.at (L : Lg) (q : Int) : Int := L.f + q % L.n
def Lg.hdOk (L : Lg) (q : Int) : Prop := HdOk q L.run L.began (L.part q).length
/-- the sectors from 'q' on, so many, are written -/
def FlW (L : Lg) : Nat → Int → Dk → Int → Dk → Prop
  | 0, _, s, e, s' => e = 0 ∧ s' = s
  | k + 1, q, s, e, s' => (¬ L.hdOk q ∧ e = 1 ∧ s' = s) ∨
    (L.hdOk q ∧ s.looks (L.at q) ≠ 0 ∧ e = s.looks (L.at q) ∧ s' = s) ∨
    (L.hdOk q ∧ s.looks (L.at q) = 0 ∧ s.fuse = 1 ∧ e = 6 ∧ ∃ ks, KeysD (s.wrote (L.at q) (L.secB q)).dirty ks ∧ s' = (s.wrote (L.at q) (L.secB q)).gone ks s.keep) ∨
    (L.hdOk q ∧ s.looks (L.at q) = 0 ∧ s.fuse ≠ 1 ∧ FlW L k (q + 1) (s.wrote (L.at q) (L.secB q)) e s')
/-- a barrier -/
def BarT (s : Dk) (e : Int) (s' : Dk) : Prop := (s.looks 0 ≠ 0 ∧ e = s.looks 0 ∧ s' = s) ∨ (s.looks 0 = 0 ∧ s.fuse ≠ 1 ∧ e = 0 ∧ s' = s.barred) ∨
  (s.looks 0 = 0 ∧ s.fuse = 1 ∧ e = 6 ∧ ∃ ks, KeysD s.dirty ks ∧ s' = s.met.gone ks s.keep)
/-- the runs of so many sectors from the i-th on -/
def setRuns (run : Int) : Nat → Nat → List Int → List Int
  | 0, _, rs => rs
  | k + 1, i, rs => setRuns run k (i + 1) ((rs ++ List.replicate (i + 1 - rs.length) (-1)).set i run)
def Lg.first1 (L : Lg) : Int := if L.sure / 482 < L.base then L.base else L.sure / 482
def Lg.many1 (L : Lg) : Nat := ((L.end + 481) / 482 - L.first1).toNat
def Lg.flushedL (L : Lg) : Lg := { L with runs := setRuns L.run L.many1 (L.first1 - L.base).toNat L.runs, sure := L.end, flushed := L.next, dirty := false }
def FlT (L : Lg) (s : Dk) (e : Int) (L' : Lg) (s' : Dk) : Prop :=
  (L.dirty = false ∧ e = 0 ∧ L' = L ∧ s' = s) ∨
  (L.dirty = true ∧ FlW L L.many1 L.first1 s e s' ∧ e ≠ 0 ∧ L' = L) ∨
  (L.dirty = true ∧ ∃ s1, FlW L L.many1 L.first1 s 0 s1 ∧ BarT s1 e s' ∧ L' = if e = 0 then L.flushedL else L)

theorem Lg.part_byt {L : Lg} (hW : L.Wf) (q : Int) : Byt (L.part q) := hW.byt.sub _ _
theorem Lg.part_len (L : Lg) (q : Int) : (L.part q).length ≤ 482 := by unfold Lg.part; rw [List.length_take]; omega
theorem Lg.secB_wf {L : Lg} (hW : L.Wf) (q : Int) : SecWf (L.secB q) := ⟨hdSec_len (L.part_len q), hdSec_byt (L.part_byt hW q)⟩
theorem setRuns_in {run : Int} (hr : -1 ≤ run ∧ run ≤ 1099511627777) : ∀ (k i : Nat) (rs : List Int), (∀ y ∈ rs, -1 ≤ y ∧ y ≤ 1099511627777) → ∀ y ∈ setRuns run k i rs, -1 ≤ y ∧ y ≤ 1099511627777
  | 0, _, _, h => h
  | k + 1, i, rs, h => by
    rw [setRuns]
    refine setRuns_in hr k (i + 1) _ fun y hy => ?_
    rcases List.mem_or_eq_of_mem_set hy with h1 | h1
    · rcases List.mem_append.1 h1 with h2 | h2
      · exact h y h2
      · rw [List.eq_of_mem_replicate h2]; omega
    · rw [h1]; exact hr
theorem setRuns_len (run : Int) : ∀ (k i : Nat) (rs : List Int), (setRuns run k i rs).length = max rs.length (if k = 0 then 0 else i + k)
  | 0, _, _ => by rw [setRuns, if_pos rfl]; omega
  | k + 1, i, rs => by
    rw [setRuns, setRuns_len run k (i + 1), List.length_set, List.length_append, List.length_replicate, if_neg (show ¬ k + 1 = 0 by omega)]
    split <;> omega
theorem Lg.many_le {L : Lg} (hW : L.Wf) : (L.first1 - L.base).toNat + L.many1 ≤ L.n + 1 ∨ L.many1 = 0 := by
  unfold Lg.many1 Lg.end
  have h1 := hW.row
  have h2 : L.base ≤ L.first1 := by unfold Lg.first1; split <;> omega
  omega
theorem Lg.runs_wf {L : Lg} (hW : L.Wf) {rs : List Int} (h1 : rs.length ≤ L.n + 1) (h2 : ∀ y ∈ rs, -1 ≤ y ∧ y ≤ 1099511627777) : { L with runs := rs }.Wf := { hW with runs := ⟨h1, h2⟩ }
theorem Lg.flushed_wf {L : Lg} (hW : L.Wf) : L.flushedL.Wf := by
  have hb := hW.b
  exact { hW with
    runs := by
      refine ⟨?_, ?_⟩
      · show (setRuns _ _ _ _).length ≤ L.n + 1
        rw [setRuns_len]
        have := hW.runs.1
        rcases Lg.many_le hW with h | h
        · split <;> omega
        · rw [if_pos h]; omega
      · exact setRuns_in ⟨by have := hW.run; omega, hW.run.2⟩ _ _ _ hW.runs.2
    sure := by show 0 ≤ L.end ∧ L.end ≤ _; omega
    flushed := by show 0 ≤ L.next ∧ L.next ≤ _; omega }
end Go.Gsl

namespace Go.Gsl
set_option linter.unusedVariables false
open Go.Proofs
set_option maxHeartbeats 8000000
theorem wFlush_ok (p : Nat) (L : Lg) (s : Dk) (hW : L.Wf) : Spec Try.prog 41 [.pointer (some ⟨p, 0, none⟩)] [p, L.d] [LOG p L, DISK L.d s]
    fun F w Rs' => ∃ e L' s', w = .int .i64 e ∧ FlT L s e L' s' ∧ Rs' = (p, LOG p L') :: (L.d, DISK L.d s') :: F := by
  refine spec_of Try.func41 rfl Try.ntmps41 rfl ?_
  intro w0 F
  have hb := hW.b
  have hn1 := hW.n1
  have hsu := hW.sure
  have hbg := hW.began
  have hrn := hW.run
  repeat' (first | with_reducible (first | refine go1 ?_ | refine sct ?_ | refine scf ?_ | refine sgr ?_) | ((with_reducible refine sw_call (wNone_ok p L) ?_); rintro _ _ ⟨rfl, rfl⟩) | (with_reducible refine sc_cond (fun h => ?_) (fun h => ?_)) <;> (try (exfalso; first | contradiction | omega | exact h Iff.rfl)) | fail)
  · refine sq_ret1 Try.results41 ?_
    exact ⟨_, ⟨0, L, s, rfl, .inl ⟨by simpa using h, rfl, rfl, rfl⟩, rfl⟩, Ent.refl _⟩
  have hdirty : L.dirty = true := by simpa using h
  refine sc_lin ([(p, LOG p L)]) (llp 0 (llp 1 (llp 2 (llp 3 (llp 4 (llp 5 (llp 6 (llp 7 (llp 8 (llp 9 (llp 10 ll0))))))))))) (by kernel_rfl) rfl (by kernel_rfl) ?_
  all_goals (iterate 4 refine go1l ?_)
  all_goals refine sl_take (h := runop_quo_nn (by omega)) ?_
  all_goals (iterate 6 refine go1l ?_)
  all_goals refine sl_done ?_
  rw [show (if L.sure / 482 < L.base then L.base else L.sure / 482) = L.first1 from rfl]
  have hf1 : L.base ≤ L.first1 ∧ L.first1 ≤ 18691697672192 := by unfold Lg.first1; split <;> omega
  repeat' (first | with_reducible (first | refine go1 ?_ | refine sct ?_ | refine scf ?_ | refine sgr ?_) | fail)
  refine sc_loop (α := { x : Nat × Dk // x.1 ≤ L.many1 ∧ ∀ e s', FlW L (L.many1 - x.1) (L.first1 + x.1) x.2 e s' → FlW L L.many1 L.first1 s e s' })
    (fun x => [(0, .pointer (some ⟨p, 0, none⟩)), (3, .int .i64 L.first1), (4, .int .i64 (L.first1 + x.1.1))]) (fun x => (p, LOG p L) :: (L.d, DISK L.d x.1.2) :: F) (fun x => L.many1 - x.1.1)
    ⟨(0, s), Nat.zero_le _, fun e s' h => by rw [Nat.sub_zero] at h; simpa using h⟩ ?_ ?_ ?_
  · simp only [Int.natCast_zero, Int.add_zero]
    repeat' (first | exact says_nil | refine says_cons rfl ?_ | refine says_cons (by simp) ?_)
  · repeat' (first | with_reducible exact Ent.refl _ | with_reducible refine Ent.take_eq ?_ ?_ | rfl | with_reducible refine Ent.oR ?_ | with_reducible refine Ent.trans (Ent.drop _ _) ?_)
  rintro ⟨⟨i, s1⟩, hi, hk⟩ e
  (try simp only at hi hk)
  simp only [List.cons_append, List.nil_append]
  have hmm : (L.many1 : Int) ≤ 16387 ∧ (L.many1 : Int) = max 0 ((L.end + 481) / 482 - L.first1) := by unfold Lg.many1; have := hW.row; have : L.end = L.base * 482 + L.row.length := rfl; omega
  repeat' (first | with_reducible refine sw_i64 (by omega) ?_ | with_reducible (first | refine go1 ?_ | refine sct ?_ | refine scf ?_ | refine sgr ?_) | ((with_reducible refine sw_call (wEnd_log p L) ?_); rintro _ _ ⟨rfl, rfl⟩) | (with_reducible refine sc_cond (fun h => ?_) (fun h => ?_)) <;> (try (exfalso; first | contradiction | omega | exact h Iff.rfl)) | fail)
  · have hlt : i < L.many1 := by omega
    have hend : L.end = L.base * 482 + L.row.length := rfl
    obtain ⟨K, hK⟩ : ∃ K : Nat, (L.first1 + i - L.base) * 482 = K := ⟨((L.first1 + i - L.base) * 482).toNat, by omega⟩
    have hKl : K < L.row.length := by omega
    rw [hK]
    have hpart : L.part (L.first1 + i) = (L.row.drop K).take (min 482 (L.row.length - K)) := by
      unfold Lg.part
      rw [hK, Int.toNat_natCast, List.take_eq_take_iff, List.length_drop]
      omega
    have hpl : (L.part (L.first1 + i)).length = min 482 (L.row.length - K) := by rw [hpart, List.length_take, List.length_drop]; omega
    refine LOG.sc p L fun o1 o2 o3 rs _ ho1 ho2 hN hrs => ?_
    rcases o1 with _ | ⟨b1, t1⟩
    · rw [ho1 rfl] at hKl
      simp at hKl
    rw [vG_some]
    have hrd : Reads (pts b1 (.cells (L.row.map (Value.int .u8) ++ t1).toArray 5 (0, 0))) (some ⟨b1, 0, none⟩) (L.row.map (Value.int .u8)) := reads_pts fun j v hj => by rw [Nat.zero_add, List.getElem?_append_left (List.getElem?_eq_some_iff.1 hj).1]; exact hj
    have htl := RdB.sub (c := L.row.length + t1.length) (Nat.le_add_right _ _) hrd K (min 482 (L.row.length - K)) (by omega)
    rw [← hpart, hpl, Nat.zero_add] at htl
    rw [show bufV L.row.length (some (b1, t1)) = .slice (some ⟨b1, 0, none⟩) L.row.length (L.row.length + t1.length) from rfl]
    refine sc_lin ([(p, pts p (lobj L.d L.f L.n L.run L.began L.base (.slice (some ⟨b1, 0, none⟩) L.row.length (L.row.length + t1.length)) (bufV L.runs.length o2) L.first (nV rs.length o3) L.sure L.flushed L.dirty))]) (llp 0 (llp 1 (llp 2 (llp 3 (llp 4 (llp 5 (llp 6 (llp 7 (llp 8 (llp 9 (llp 10 (llp 11 (llp 12 (llp 13 (llp 14 (llp 15 (llp 16 (llp 17 (llp 18 (llp 19 (llp 20 (llp 21 (llp 22 (lle 23 (llp 24 (llp 25 (llp 26 (llp 27 (llp 28 ll0))))))))))))))))))))))))))))) (by kernel_rfl) rfl (by kernel_rfl) ?_
    all_goals (iterate 15 refine go1l ?_)
    all_goals (first | refine sl_in (by omega) ?_ | refine go1l ?_)
    all_goals (iterate 6 refine go1l ?_)
    all_goals refine sl_take (h := runop_sub K (min 482 (L.row.length - K)) (by split <;> omega) ⟨rfl, by split <;> omega, rfl, by omega⟩) ?_
    all_goals refine sl_eff ?_
    all_goals (repeat' (first | with_reducible (first | refine go1 ?_ | refine sct ?_ | refine scf ?_ | refine sgr ?_) | ((with_reducible refine sw_call (wHead_ok b1 _ (L.first1 + i) L.run L.began _ (L.part (L.first1 + i)) htl (L.part_byt hW _) (by omega)) ?_); rintro _ _ (⟨hH, rfl, rfl⟩ | ⟨hH, b6, t6, rfl, rfl⟩)) | with_reducible refine sl_back ?_ | fail))
    all_goals (iterate 5 refine go1l ?_)
    all_goals refine sl_done ?_
    · repeat' (first | with_reducible (first | refine go1 ?_ | refine sct ?_ | refine scf ?_ | refine sgr ?_) | (with_reducible refine sc_cond (fun h => ?_) (fun h => ?_)) <;> (try (exfalso; first | contradiction | omega | exact h Iff.rfl)) | fail)
      refine sq_ret1 Try.results41 ?_
      refine ⟨_, ⟨1, L, s1, rfl, .inr (.inl ⟨hdirty, hk 1 s1 ?_, by decide, rfl⟩), rfl⟩, ?_⟩
      · obtain ⟨k, hk'⟩ : ∃ k, L.many1 - i = k + 1 := ⟨L.many1 - i - 1, by omega⟩
        rw [hk', FlW]
        exact .inl ⟨hH, rfl, rfl⟩
      · refine Ent.trans ?_ (LOG.close hW ho1 ho2 hN hrs)
        rw [vG_some]
        repeat' (first | with_reducible exact Ent.refl _ | with_reducible refine Ent.take_eq ?_ ?_ | rfl | with_reducible refine Ent.oR ?_ | with_reducible refine Ent.trans (Ent.drop _ _) ?_)
    refine sq_ent (Ent.trans ?_ (Ent.trans (LOG.close (p := p) (o1 := some (b1, t1)) (o2 := o2) (o3 := o3) hW ho1 ho2 hN hrs) (Ent.cons _ (Ent.refl ((b6, pts b6 (.cells ((hdSec (L.first1 + i) L.run L.began (L.part (L.first1 + i))).map (Value.int .u8) ++ t6).toArray 5 (0, 0))) :: (L.d, DISK L.d s1) :: F))))) ?_
    · rw [vG_some]
      repeat' (first | with_reducible exact Ent.refl _ | with_reducible refine Ent.take_eq ?_ ?_ | rfl | with_reducible refine Ent.oR ?_ | with_reducible refine Ent.trans (Ent.drop _ _) ?_)
    repeat' (first | with_reducible (first | refine go1 ?_ | refine sct ?_ | refine scf ?_ | refine sgr ?_) | (with_reducible refine sc_cond (fun h => ?_) (fun h => ?_)) <;> (try (exfalso; first | contradiction | omega | exact h Iff.rfl)) | fail)
    have h512 : (hdSec (L.first1 + i) L.run L.began (L.part (L.first1 + i))).length = 512 := hdSec_len (L.part_len _)
    rw [h512]
    have hrd6 : Reads (pts b6 (.cells ((hdSec (L.first1 + i) L.run L.began (L.part (L.first1 + i))).map (Value.int .u8) ++ t6).toArray 5 (0, 0))) (some ⟨b6, 0, none⟩) ((L.secB (L.first1 + i)).map (Value.int .u8)) := reads_row
    obtain ⟨k, hk'⟩ : ∃ k, L.many1 - i = k + 1 := ⟨L.many1 - i - 1, by omega⟩
    rw [hk'] at hk
    have hm1 := Int.emod_nonneg (L.first1 + i) (show (L.n : Int) ≠ 0 by omega)
    have hm2 := Int.emod_lt_of_pos (L.first1 + i) (show 0 < (L.n : Int) by omega)
    rcases Classical.em (s1.looks (L.at (L.first1 + i)) = 0) with hlk | hlk
    · refine sc_lin ([(p, LOG p L)]) (llp 0 (llp 1 (llp 2 (llp 3 (llp 4 (llp 5 (llp 6 (llp 7 (llp 8 (llp 9 (llp 10 (llp 11 (llp 12 (llp 13 (llp 14 (llp 15 (lle 16 (llp 17 ll0)))))))))))))))))) (by kernel_rfl) rfl (by kernel_rfl) ?_
      all_goals (iterate 13 refine go1l ?_)
      all_goals refine sl_take (h := runop_rem_nn (by omega)) ?_
      all_goals (first | refine sl_in (by omega) ?_ | refine go1l ?_)
      all_goals refine go1l ?_
      all_goals refine sl_eff ?_
      all_goals (repeat' (first | with_reducible (first | refine go1 ?_ | refine sct ?_ | refine scf ?_ | refine sgr ?_) | ((with_reducible refine sw_call (dWrite_ok L.d b6 s1 _ _ (512 + t6.length) (L.at (L.first1 + i)) (L.secB (L.first1 + i)) hlk (L.secB_wf hW _) (by simp) hrd6) ?_); rintro _ _ (⟨hfu, rfl, rfl⟩ | ⟨hfu, rfl, ks, hks, rfl⟩)) | with_reducible refine sl_back ?_ | fail))
      all_goals refine go1l ?_
      all_goals refine sl_done ?_
      · repeat' (first | with_reducible refine sw_i64 (by omega) ?_ | with_reducible (first | refine go1 ?_ | refine sct ?_ | refine scf ?_ | refine sgr ?_) | (with_reducible refine sc_cond (fun h => ?_) (fun h => ?_)) <;> (try (exfalso; first | contradiction | omega | exact h Iff.rfl)) | fail)
        refine sq_round ⟨(i + 1, s1.wrote (L.at (L.first1 + i)) (L.secB (L.first1 + i))), by show i + 1 ≤ L.many1; omega, fun e s' h => hk e s' ?_⟩ ?_ ?_ ?_
        · rw [FlW]
          refine .inr (.inr (.inr ⟨hH, hlk, hfu, ?_⟩))
          rw [show L.many1 - (i + 1) = k by omega] at h
          simp only at h
          rw [show L.first1 + ((i + 1 : Nat) : Int) = L.first1 + i + 1 by omega] at h
          exact h
        · show L.many1 - (i + 1) < L.many1 - i
          omega
        · dsimp only
          rw [show L.first1 + ((i + 1 : Nat) : Int) = L.first1 + i + 1 by omega]
          repeat' (first | exact says_nil | refine says_cons rfl ?_ | refine says_cons (by simp) ?_)
        · repeat' (first | with_reducible exact Ent.refl _ | with_reducible refine Ent.take_eq ?_ ?_ | rfl | with_reducible refine Ent.oR ?_ | with_reducible refine Ent.trans (Ent.drop _ _) ?_)
      · repeat' (first | with_reducible (first | refine go1 ?_ | refine sct ?_ | refine scf ?_ | refine sgr ?_) | (with_reducible refine sc_cond (fun h => ?_) (fun h => ?_)) <;> (try (exfalso; first | contradiction | omega | exact h Iff.rfl)) | fail)
        refine sq_ret1 Try.results41 ?_
        refine ⟨_, ⟨6, L, (s1.wrote (L.at (L.first1 + i)) (L.secB (L.first1 + i))).gone ks s1.keep, rfl, .inr (.inl ⟨hdirty, hk 6 _ ?_, by decide, rfl⟩), rfl⟩, ?_⟩
        · rw [FlW]
          exact .inr (.inr (.inl ⟨hH, hlk, hfu, rfl, ks, hks, rfl⟩))
        · repeat' (first | with_reducible exact Ent.refl _ | with_reducible refine Ent.take_eq ?_ ?_ | rfl | with_reducible refine Ent.oR ?_ | with_reducible refine Ent.trans (Ent.drop _ _) ?_)
    · refine sc_lin ([(p, LOG p L)]) (llp 0 (llp 1 (llp 2 (llp 3 (llp 4 (llp 5 (llp 6 (llp 7 (llp 8 (llp 9 (llp 10 (llp 11 (llp 12 (llp 13 (llp 14 (llp 15 (lle 16 (llp 17 ll0)))))))))))))))))) (by kernel_rfl) rfl (by kernel_rfl) ?_
      all_goals (iterate 13 refine go1l ?_)
      all_goals refine sl_take (h := runop_rem_nn (by omega)) ?_
      all_goals (first | refine sl_in (by omega) ?_ | refine go1l ?_)
      all_goals refine go1l ?_
      all_goals refine sl_eff ?_
      all_goals (repeat' (first | with_reducible (first | refine go1 ?_ | refine sct ?_ | refine scf ?_ | refine sgr ?_) | ((with_reducible refine sw_call (dWrite_bad L.d b6 s1 _ _ (L.at (L.first1 + i)) hlk) ?_); rintro _ _ ⟨rfl, rfl⟩) | with_reducible refine sl_back ?_ | fail))
      all_goals refine go1l ?_
      all_goals refine sl_done ?_
      repeat' (first | with_reducible (first | refine go1 ?_ | refine sct ?_ | refine scf ?_ | refine sgr ?_) | (with_reducible refine sc_cond (fun h => ?_) (fun h => ?_)) <;> (try (exfalso; first | contradiction | omega | exact h Iff.rfl)) | fail)
      refine sq_ret1 Try.results41 ?_
      refine ⟨_, ⟨s1.looks (L.at (L.first1 + i)), L, s1, rfl, .inr (.inl ⟨hdirty, hk _ s1 ?_, hlk, rfl⟩), rfl⟩, ?_⟩
      · rw [FlW]
        exact .inr (.inl ⟨hH, hlk, rfl, rfl⟩)
      · repeat' (first | with_reducible exact Ent.refl _ | with_reducible refine Ent.take_eq ?_ ?_ | rfl | with_reducible refine Ent.oR ?_ | with_reducible refine Ent.trans (Ent.drop _ _) ?_)
  have hi2 : L.many1 - i = 0 := by have hend : L.end = L.base * 482 + L.row.length := rfl; omega
  have hfl : FlW L L.many1 L.first1 s 0 s1 := hk 0 s1 (by rw [hi2, FlW]; exact ⟨rfl, rfl⟩)
  clear hk
  rcases Classical.em (s1.looks 0 = 0) with hlk | hlk
  rotate_left
  · repeat' (first | with_reducible (first | refine go1 ?_ | refine sct ?_ | refine scf ?_ | refine sgr ?_) | ((with_reducible refine sw_call (dBarrier_bad L.d s1 hlk) ?_); rintro _ _ ⟨rfl, rfl⟩) | (with_reducible refine sc_cond (fun h => ?_) (fun h => ?_)) <;> (try (exfalso; first | contradiction | omega | exact h Iff.rfl)) | fail)
    refine sq_ret1 Try.results41 ?_
    refine ⟨_, ⟨s1.looks 0, L, s1, rfl, .inr (.inr ⟨hdirty, s1, hfl, .inl ⟨hlk, rfl, rfl⟩, by rw [if_neg hlk]⟩), rfl⟩, ?_⟩
    repeat' (first | with_reducible exact Ent.refl _ | with_reducible refine Ent.take_eq ?_ ?_ | rfl | with_reducible refine Ent.oR ?_ | with_reducible refine Ent.trans (Ent.drop _ _) ?_)
  repeat' (first | with_reducible (first | refine go1 ?_ | refine sct ?_ | refine scf ?_ | refine sgr ?_) | ((with_reducible refine sw_call (dBarrier_ok L.d s1 hlk) ?_); rintro _ _ (⟨hfu, rfl, rfl⟩ | ⟨hfu, rfl, ks, hks, rfl⟩)) | (with_reducible refine sc_cond (fun h => ?_) (fun h => ?_)) <;> (try (exfalso; first | contradiction | omega | exact h Iff.rfl)) | fail)
  rotate_left
  · refine sq_ret1 Try.results41 ?_
    refine ⟨_, ⟨6, L, s1.met.gone ks s1.keep, rfl, .inr (.inr ⟨hdirty, s1, hfl, .inr (.inr ⟨hlk, hfu, rfl, ks, hks, rfl⟩), by rw [if_neg (by decide)]⟩), rfl⟩, ?_⟩
    repeat' (first | with_reducible exact Ent.refl _ | with_reducible refine Ent.take_eq ?_ ?_ | rfl | with_reducible refine Ent.oR ?_ | with_reducible refine Ent.trans (Ent.drop _ _) ?_)
  obtain ⟨i0, hi0⟩ : ∃ i0, i0 = (L.first1 - L.base).toNat := ⟨_, rfl⟩
  have hml := Lg.many_le hW
  rw [← hi0] at hml
  refine sc_loop (α := { x : Nat × List Int // x.1 ≤ L.many1 ∧ setRuns L.run (L.many1 - x.1) (i0 + x.1) x.2 = L.flushedL.runs ∧ x.2.length ≤ L.n + 1 ∧ ∀ y ∈ x.2, -1 ≤ y ∧ y ≤ 1099511627777 })
    (fun x => [(0, .pointer (some ⟨p, 0, none⟩)), (10, .int .i64 (L.first1 + x.1.1))]) (fun x => (p, LOG p { L with runs := x.1.2 }) :: (L.d, DISK L.d s1.barred) :: F) (fun x => L.many1 - x.1.1)
    ⟨(0, L.runs), Nat.zero_le _, by rw [Nat.sub_zero, Nat.add_zero, hi0]; rfl, hW.runs.1, hW.runs.2⟩ ?_ ?_ ?_
  · simp only [Int.natCast_zero, Int.add_zero]
    repeat' (first | exact says_nil | refine says_cons rfl ?_ | refine says_cons (by simp) ?_)
  · repeat' (first | with_reducible exact Ent.refl _ | with_reducible refine Ent.take_eq ?_ ?_ | rfl | with_reducible refine Ent.oR ?_ | with_reducible refine Ent.trans (Ent.drop _ _) ?_)
  rintro ⟨⟨j, rs0⟩, hj, hset, hrl, hry⟩ e1
  (try simp only at hj hset hrl hry)
  simp only [List.cons_append, List.nil_append]
  have hend : L.end = L.base * 482 + L.row.length := rfl
  have hE : Spec Try.prog 75 [.pointer (some ⟨p, 0, none⟩)] [p] [LOG p { L with runs := rs0 }] fun F w Rs' => w = .int .i64 L.end ∧ Rs' = (p, LOG p { L with runs := rs0 }) :: F := wEnd_log p _
  have hN : Spec Try.prog 76 [.pointer (some ⟨p, 0, none⟩)] [p] [LOG p { L with runs := rs0 }] fun F w Rs' => w = .int .i64 L.next ∧ Rs' = (p, LOG p { L with runs := rs0 }) :: F := wNext_log p _
  have hml2 : (L.many1 : Int) ≤ 16387 ∧ (L.many1 : Int) = max 0 ((L.end + 481) / 482 - L.first1) := by unfold Lg.many1; have := hW.row; omega
  repeat' (first | with_reducible refine sw_i64 (by omega) ?_ | with_reducible (first | refine go1 ?_ | refine sct ?_ | refine scf ?_ | refine sgr ?_) | ((with_reducible refine sw_call hE ?_); rintro _ _ ⟨rfl, rfl⟩) | ((with_reducible refine sw_call hN ?_); rintro _ _ ⟨rfl, rfl⟩) | (with_reducible refine sc_cond (fun h => ?_) (fun h => ?_)) <;> (try (exfalso; first | contradiction | omega | exact h Iff.rfl)) | fail)
  · have hlt : j < L.many1 := by omega
    obtain ⟨m', hm'⟩ : ∃ m', L.many1 - j = m' + 1 := ⟨L.many1 - j - 1, by omega⟩
    rw [hm', setRuns] at hset
    clear hE hN
    refine sc_loop (α := { k : Nat // k ≤ i0 + j + 1 - rs0.length }) (fun k => [(0, .pointer (some ⟨p, 0, none⟩)), (10, .int .i64 (L.first1 + j))]) (fun k => (p, LOG p { L with runs := rs0 ++ List.replicate k.1 (-1) }) :: (L.d, DISK L.d s1.barred) :: F) (fun k => i0 + j + 1 - rs0.length - k.1)
      ⟨0, Nat.zero_le _⟩ ?_ ?_ ?_
    · repeat' (first | exact says_nil | refine says_cons rfl ?_ | refine says_cons (by simp) ?_)
    · dsimp only
      rw [List.replicate_zero, List.append_nil]
      repeat' (first | with_reducible exact Ent.refl _ | with_reducible refine Ent.take_eq ?_ ?_ | rfl | with_reducible refine Ent.oR ?_ | with_reducible refine Ent.trans (Ent.drop _ _) ?_)
    rintro ⟨k, hk⟩ e2
    (try simp only at hk)
    simp only [List.cons_append, List.nil_append]
    obtain ⟨L2, hL2⟩ : ∃ L2 : Lg, L2 = { L with runs := rs0 ++ List.replicate k (-1) } := ⟨_, rfl⟩
    have hb2 : L2.base = L.base := by rw [hL2]
    have hr2 : L2.runs = rs0 ++ List.replicate k (-1) := by rw [hL2]
    have hr2l : L2.runs.length = rs0.length + k := by rw [hr2, List.length_append, List.length_replicate]
    have hun2 : L2.run = L.run := by rw [hL2]
    rw [← hL2]
    refine LOG.sc p L2 fun o1 o2 o3 rs hW2 ho1 ho2 hN hrs => ?_
    have hl2 : o2 = none → L2.runs.length = 0 := fun h => by rw [ho2 h]; rfl
    rw [hb2]
    repeat' (first | with_reducible (first | refine go1 ?_ | refine sct ?_ | refine scf ?_ | refine sgr ?_) | fail)
    refine sc_lin ([(p, pts p (lobj L2.d L2.f L2.n L2.run L2.began L.base (bufV L2.row.length o1) (bufV L2.runs.length o2) L2.first (nV rs.length o3) L2.sure L2.flushed L2.dirty))]) (llp 0 (llp 1 (llp 2 (llp 3 (llp 4 (llp 5 (llp 6 (llp 7 (llp 8 (llp 9 (llp 10 (llp 11 ll0)))))))))))) (by kernel_rfl) rfl (by kernel_rfl) ?_
    all_goals (iterate 4 refine go1l ?_)
    all_goals refine sl_take (h := runop_lenV o2 hl2) ?_
    all_goals (iterate 5 refine go1l ?_)
    all_goals (first | refine sl_in (by omega) ?_ | refine go1l ?_)
    all_goals refine go1l ?_
    all_goals refine sl_done ?_
    have hidx : L.first1 + j - L.base = ((i0 + j : Nat) : Int) := by omega
    rw [hidx]
    repeat' (first | with_reducible (first | refine go1 ?_ | refine sct ?_ | refine scf ?_ | refine sgr ?_) | (with_reducible refine sc_cond (fun h => ?_) (fun h => ?_)) <;> (try (exfalso; first | contradiction | omega | exact h Iff.rfl)) | fail)
    · refine sw_buildSlice [Value.int .i64 (-1)] (by omega) rfl fun b7 => ?_
      refine sw_appendV1 (kd := .i64) (b7 := b7) L2.runs (-1) o2 ho2 ⟨by omega, by omega⟩ fun o2' ho2' => ?_
      repeat' (first | with_reducible (first | refine go1 ?_ | refine sct ?_ | refine scf ?_ | refine sgr ?_) | with_reducible refine sw_store ?_ | fail)
      refine sq_round ⟨k + 1, by omega⟩ ?_ ?_ ?_
      · show i0 + j + 1 - rs0.length - (k + 1) < i0 + j + 1 - rs0.length - k
        omega
      · repeat' (first | exact says_nil | refine says_cons rfl ?_ | refine says_cons (by simp) ?_)
      · have hL3 : { L with runs := rs0 ++ List.replicate (k + 1) (-1) } = { L2 with runs := L2.runs ++ [-1] } := by
          rw [hL2, List.replicate_succ', List.append_assoc]
        dsimp only
        rw [hL3]
        refine Ent.trans ?_ (LOG.close (L := { L2 with runs := L2.runs ++ [-1] }) (o1 := o1) (o2 := o2') (o3 := o3) (rs := rs) (Lg.runs_wf hW2 ?_ ?_) ho1 (fun h => absurd h ho2') hN hrs)
        · rw [← hb2]
          repeat' (first | with_reducible exact Ent.refl _ | with_reducible refine Ent.take_eq ?_ ?_ | rfl | with_reducible refine Ent.oR ?_ | with_reducible refine Ent.trans (Ent.drop _ _) ?_)
        · rw [List.length_append, List.length_singleton]
          have := hW2.n1
          have hn2 : L2.n = L.n := by rw [hL2]
          omega
        · intro y hy
          rcases List.mem_append.1 hy with h1 | h1
          · exact hW2.runs.2 y h1
          · rw [List.mem_singleton.1 h1]; omega
    · rcases o2 with _ | ⟨b2, t2⟩
      · have := hl2 rfl
        omega
      rw [vG_some]
      refine sc_lin ([(p, pts p (lobj L2.d L2.f L2.n L2.run L2.began L.base (bufV L2.row.length o1) (bufV L2.runs.length (some (b2, t2))) L2.first (nV rs.length o3) L2.sure L2.flushed L2.dirty))]) (llp 0 (llp 1 (llp 2 (llp 3 (llp 4 (llp 5 (llp 6 (llp 7 (llp 8 (llp 9 (llp 10 (llp 11 (llp 12 (llp 13 (llp 14 (lle 15 ll0)))))))))))))))) (by kernel_rfl) rfl (by kernel_rfl) ?_
      all_goals (iterate 9 refine go1l ?_)
      all_goals refine sl_take (h := runop_subI hidx) ?_
      all_goals (iterate 4 refine go1l ?_)
      all_goals refine sl_take (h := runop_idxV (b := b2) (r := t2) (i0 + j) ⟨rfl, by omega⟩) ?_
      all_goals refine sl_eff ?_
      all_goals (repeat' (first | with_reducible (first | refine go1 ?_ | refine sct ?_ | refine scf ?_ | refine sgr ?_) | with_reducible refine sw_storeAt (by rw [List.length_append, List.length_map]; omega) ?_ | with_reducible refine sl_back ?_ | fail))
      all_goals refine sl_done ?_
      repeat' (first | with_reducible refine sw_i64 (by omega) ?_ | with_reducible (first | refine go1 ?_ | refine sct ?_ | refine scf ?_ | refine sgr ?_) | fail)
      have hset2 : (L2.runs.map (Value.int .i64) ++ t2).set (i0 + j) (.int .i64 L2.run) = (L2.runs.set (i0 + j) L2.run).map (Value.int .i64) ++ t2 := by
        rw [List.set_append_left _ _ (by rw [List.length_map]; omega), List.map_set]
      have hkk : k = i0 + j + 1 - rs0.length := by omega
      have hrr : rs0 ++ List.replicate (i0 + j + 1 - rs0.length) (-1) = L2.runs := by rw [hr2, hkk]
      rw [hrr, ← hun2] at hset
      have hwr : ∀ y ∈ L2.runs.set (i0 + j) L2.run, -1 ≤ y ∧ y ≤ 1099511627777 := fun y hy => by
        rcases List.mem_or_eq_of_mem_set hy with h1 | h1
        · exact hW2.runs.2 y h1
        · rw [h1, hun2]; omega
      refine sq_round ⟨(j + 1, L2.runs.set (i0 + j) L2.run), ?_, ?_, ?_, hwr⟩ ?_ ?_ ?_
      · show j + 1 ≤ L.many1
        omega
      · rw [← hset]
        show setRuns L.run (L.many1 - (j + 1)) (i0 + (j + 1)) _ = _
        rw [show L.many1 - (j + 1) = m' by omega, show i0 + (j + 1) = i0 + j + 1 by omega, hun2]
      · have hn2 : L2.n = L.n := by rw [hL2]
        have := hW2.runs.1
        show (L2.runs.set _ _).length ≤ _
        rw [List.length_set]
        omega
      · show L.many1 - (j + 1) < L.many1 - j
        omega
      · dsimp only
        rw [show L.first1 + ((j + 1 : Nat) : Int) = L.first1 + j + 1 by omega]
        repeat' (first | exact says_nil | refine says_cons rfl ?_ | refine says_cons (by simp) ?_)
      · have hL3 : { L with runs := L2.runs.set (i0 + j) L2.run } = { L2 with runs := L2.runs.set (i0 + j) L2.run } := by rw [hL2]
        dsimp only
        rw [hL3]
        refine Ent.trans ?_ (LOG.close (L := { L2 with runs := L2.runs.set (i0 + j) L2.run }) (o1 := o1) (o2 := some (b2, t2)) (o3 := o3) (rs := rs) (Lg.runs_wf hW2 (by rw [List.length_set]; exact hW2.runs.1) hwr) ho1 (fun h => by cases h) hN hrs)
        dsimp only
        rw [← hb2, hset2, vG_some, List.length_set]
        repeat' (first | with_reducible exact Ent.refl _ | with_reducible refine Ent.take_eq ?_ ?_ | rfl | with_reducible refine Ent.oR ?_ | with_reducible refine Ent.trans (Ent.drop _ _) ?_)
  · refine LOG.sw p { L with runs := rs0 } fun o1 o2 o3 rs hW2 ho1 ho2 hN hrs => ?_
    repeat' (first | with_reducible (first | refine go1 ?_ | refine sct ?_ | refine scf ?_ | refine sgr ?_) | with_reducible refine sw_store ?_ | fail)
    refine sq_ret1 Try.results41 ?_
    have hz : L.many1 - j = 0 := by omega
    rw [hz, setRuns] at hset
    refine ⟨_, ⟨0, L.flushedL, s1.barred, rfl, .inr (.inr ⟨hdirty, s1, hfl, .inr (.inl ⟨hlk, hfu, rfl, rfl⟩), by rw [if_pos rfl]⟩), rfl⟩, ?_⟩
    have hL3 : L.flushedL = { L with runs := rs0, sure := L.end, flushed := L.next, dirty := false } := by rw [hset]; rfl
    have hwf := Lg.flushed_wf hW
    rw [hL3] at hwf ⊢
    refine Ent.trans ?_ (LOG.close (L := { L with runs := rs0, sure := L.end, flushed := L.next, dirty := false }) (o1 := o1) (o2 := o2) (o3 := o3) (rs := rs) hwf ho1 ho2 hN hrs)
    repeat' (first | with_reducible exact Ent.refl _ | with_reducible refine Ent.take_eq ?_ ?_ | rfl | with_reducible refine Ent.oR ?_ | with_reducible refine Ent.trans (Ent.drop _ _) ?_)
end Go.Gsl

namespace Go.Gsl
set_option linter.unusedVariables false
open Go.Proofs
set_option maxHeartbeats 4000000
section
variable (p : Nat) (L : Lg)
theorem wMark_ok (hW : L.Wf) : Spec Try.prog 43 [.pointer (some ⟨p, 0, none⟩)] [p] [LOG p L] fun F w Rs' => w = .agg L.mark.cs.toArray ∧ Rs' = (p, LOG p L) :: F := by
  refine spec_of Try.func43 rfl Try.ntmps43 rfl ?_
  intro w0 F
  have hb := hW.b
  repeat' (first | with_reducible (first | refine go1 ?_ | refine sct ?_ | refine scf ?_ | refine sgr ?_) | fail)
  refine sw_alloc fun b => ?_
  repeat' (first | with_reducible (first | refine go1 ?_ | refine sct ?_ | refine scf ?_ | refine sgr ?_) | ((with_reducible refine sw_call (wNone_ok p L) ?_); rintro _ _ ⟨rfl, rfl⟩) | ((with_reducible refine sw_call (wEnd_log p L) ?_); rintro _ _ ⟨rfl, rfl⟩) | ((with_reducible refine sw_call (wNext_log p L) ?_); rintro _ _ ⟨rfl, rfl⟩) | ((with_reducible refine sw_call (wmark_ok p L L.end L.next (by omega)) ?_); rintro _ _ ⟨rfl, rfl⟩) | fail)
  unfold Mk.cs
  refine sw_store_agg ?_
  repeat' (first | with_reducible (first | refine go1 ?_ | refine sct ?_ | refine scf ?_ | refine sgr ?_) | fail)
  refine sq_resA Try.results43 (by first | exact .inl rfl | exact .inr rfl) rfl ?_
  refine ⟨_, ⟨rfl, rfl⟩, ?_⟩
  repeat' (first | with_reducible exact Ent.refl _ | with_reducible refine Ent.take_eq ?_ ?_ | rfl | with_reducible refine Ent.oR ?_ | with_reducible refine Ent.trans (Ent.drop _ _) ?_)
end
theorem unh_zeros : unhE (List.replicate 512 0) = 12 := by kernel_rfl
def Fnd.zero : Fnd := ⟨false, 0, 0, 0, []⟩
theorem Dk.now_new {N i : Nat} (h : i < N) : (Dk.new N).now i = List.replicate 512 0 := by
  unfold Dk.now Dk.new
  simp only [Option.getD_none, Int.toNat_natCast]
  rw [List.getElem?_replicate, if_pos h]
  rfl
theorem fnds_new {N f n : Nat} (h : f + n ≤ N) : fndsOf (Dk.new N) f n = List.replicate n Fnd.zero := by
  unfold fndsOf
  apply List.ext_getElem?
  intro i
  rw [List.getElem?_map, List.getElem?_replicate]
  split
  · rename_i hi
    rw [List.getElem?_range hi]
    simp only [Option.map_some]
    unfold fndOf
    rw [show ((f : Int) + (i : Int)) = ((f + i : Nat) : Int) by omega, Dk.now_new (by omega)]
    unfold Fnd.of
    rw [unh_zeros]
    rfl
  · rename_i hi
    rw [List.getElem?_eq_none (by rw [List.length_range]; omega)]
    rfl
def Lg.fresh (pd f n : Nat) : Lg := ⟨pd, f, n, 1, 0, 0, [], [], ⟨0, 0, 0, 0⟩, [], 0, 0, false⟩
theorem runF_zero : ∀ (n : Nat) (r : Int), runF (List.replicate n Fnd.zero) r = r
  | 0, _ => rfl
  | n + 1, r => by rw [List.replicate_succ, runF]; exact runF_zero n r
theorem opn_fresh {N f n pd : Nat} (h : f + n ≤ N) (hn : 1 ≤ n) : opnL (fndsOf (Dk.new N) f n) pd f n ⟨0, 0, 0, 0⟩ = Lg.fresh pd f n := by
  rw [fnds_new h]
  have h1 : flwF (List.replicate n Fnd.zero) 0 n 0 0 = [] := by
    obtain ⟨k, rfl⟩ : ∃ k, n = k + 1 := ⟨n - 1, by omega⟩
    rw [flwF]
    simp only [List.length_replicate]
    rw [show (((0 : Int) + ((0 : Nat) : Int)) % ((k + 1 : Nat) : Int)).toNat = 0 by simp, List.getElem?_replicate, if_pos (by omega)]
    simp only
    rw [if_pos (.inl rfl)]
  unfold opnL
  simp only [List.length_replicate, h1, runF_zero]
  rfl
def L17 (pd f n : Nat) : Lg := { Lg.fresh pd f n with l := [(0, [97])], row := frame [97], dirty := true }
theorem live_app {pd f n : Nat} (hn : 1 ≤ n) : ((Lg.fresh pd f n).app [97]).1 = 0 ∧ ((Lg.fresh pd f n).app [97]).2.1 = 0 ∧ ((Lg.fresh pd f n).app [97]).2.2 = L17 pd f n := by
  have hf : (frame [97]).length = 6 := by kernel_rfl
  unfold Lg.app
  rw [if_neg (by decide), if_neg (by
    rw [hf]
    unfold Lg.limit Lg.end Lg.next Lg.fresh
    simp only [List.length_nil]
    omega)]
  exact ⟨rfl, rfl, rfl⟩
set_option maxRecDepth 20000 in
/-- marks compared -/
theorem eqMk (w : World) (a b : Mk) : (Op.equalIn 10000 23 (.agg a.cs.toArray) (.agg b.cs.toArray)).run Try.prog w = .ok (decide (a = b)) w := by
  have h := eqMark w 9998 a.sector a.offset a.number a.run b.sector b.offset b.number b.run
  refine h.trans ?_
  congr 1
  cases a; cases b
  simp only [Mk.mk.injEq]
  rw [Bool.eq_iff_iff]
  simp
instance (priority := 500) EqAgg.mks (a b : Mk) : EqAgg Try.prog 23 a.cs b.cs (decide (a = b)) := ⟨fun w => eqMk w a b, by kernel_rfl⟩
instance (priority := 2000) EqAgg.mks_self (a : Mk) : EqAgg Try.prog 23 a.cs a.cs true := ⟨fun w => (eqMk w a a).trans (by rw [decide_eq_true rfl]), by kernel_rfl⟩
theorem app_wf {pd f n : Nat} (h : 2 ≤ n ∧ n ≤ 16384 ∧ f ≤ 16384) : (Lg.fresh pd f n).Wf where
  n1 := h
  first := (by decide : (⟨0, 0, 0, 0⟩ : Mk).Ok)
  base := rfl
  row := Nat.zero_le _
  byt := fun x hx => by cases hx
  recs := fun r hr => by cases hr
  many := Nat.zero_le _
  run := (by decide : (1 : Int) ≤ 1 ∧ (1 : Int) ≤ 1099511627777)
  began := (by decide : (0 : Int) ≤ 0 ∧ (0 : Int) ≤ 9007199254740992)
  runs := ⟨Nat.zero_le _, fun y hy => by cases hy⟩
  sure := (by decide : (0 : Int) ≤ 0 ∧ (0 : Int) ≤ 9007199254740992)
  flushed := (by decide : (0 : Int) ≤ 0 ∧ (0 : Int) ≤ 9007199254740992)
theorem byt97 : Byt [97] := fun x hx => by rw [List.mem_singleton.1 hx]; decide
theorem L17_flush {pd : Nat} {N : Nat} (hN : 6 ≤ N) {e : Int} {L' : Lg} {s' : Dk} (h : FlT (L17 pd 1 5) (Dk.new N) e L' s') : e = 0 ∧ L' = (L17 pd 1 5).flushedL := by
  have hm : (L17 pd 1 5).many1 = 1 := by kernel_rfl
  have hf : (L17 pd 1 5).first1 = 0 := by kernel_rfl
  have hh : (L17 pd 1 5).hdOk 0 := by
    exact ⟨(by decide : Stamp 0 0), (by decide : Stamp 1 0), (by decide : Plc 0), (L17 pd 1 5).part_len 0⟩
  have hl : ∀ a : Int, 0 ≤ a → a < 6 → (Dk.new N).looks a = 0 := fun a h1 h2 => by
    unfold Dk.looks Dk.new
    simp only [List.length_replicate]
    rw [if_neg (by decide), if_neg (by omega)]
  have ha : (L17 pd 1 5).at 0 = 1 := by kernel_rfl
  have hw : ∀ e1 s1, FlW (L17 pd 1 5) 1 0 (Dk.new N) e1 s1 → e1 = 0 ∧ s1 = (Dk.new N).wrote 1 ((L17 pd 1 5).secB 0) := by
    intro e1 s1 h1
    rw [FlW, ha] at h1
    rcases h1 with ⟨h1, _⟩ | ⟨_, h1, _⟩ | ⟨_, _, h1, _⟩ | ⟨_, _, _, h1⟩
    · exact absurd hh h1
    · exact absurd (hl 1 (by decide) (by decide)) h1
    · cases h1
    · rw [FlW] at h1; exact h1
  unfold FlT at h
  rw [hm, hf] at h
  rcases h with ⟨h, _⟩ | ⟨_, h1, h2, _⟩ | ⟨_, s1, h1, h2, h3⟩
  · cases h
  · exact absurd (hw _ _ h1).1 h2
  · have hs1 := (hw _ _ h1).2
    subst hs1
    have hl0 : ((Dk.new N).wrote 1 ((L17 pd 1 5).secB 0)).looks 0 = 0 := hl 0 (by decide) (by decide)
    rcases h2 with ⟨h2, _⟩ | ⟨_, _, rfl, _⟩ | ⟨_, h2, _⟩
    · exact absurd hl0 h2
    · rw [if_pos rfl] at h3
      exact ⟨rfl, h3⟩
    · cases h2
theorem L17_mark (pd : Nat) : (L17 pd 1 5).flushedL.mark = ⟨0, 6, 1, 1⟩ ∧ (L17 pd 1 5).flushedL.flushed = 1 := by
  constructor <;> kernel_rfl
theorem dNew_8 : Spec Try.prog 31 [.int .i64 8] [] [] fun F v Rs' => ∃ p, v = .tuple #[.pointer (some ⟨p, 0, none⟩), .int .i64 0] ∧ Rs' = (p, DISK p (Dk.new 8)) :: F := dNew_ok 8 (by omega) (by omega)
theorem dNew_6 : Spec Try.prog 31 [.int .i64 6] [] [] fun F v Rs' => ∃ p, v = .tuple #[.pointer (some ⟨p, 0, none⟩), .int .i64 0] ∧ Rs' = (p, DISK p (Dk.new 6)) :: F := dNew_ok 6 (by omega) (by omega)
theorem wOpen_new (pd N : Nat) (hN : 6 ≤ N) : Spec Try.prog 32 [.pointer (some ⟨pd, 0, none⟩), .int .i64 1, .int .i64 5, .agg (Mk.cs ⟨0, 0, 0, 0⟩).toArray] [pd] [DISK pd (Dk.new N)]
    fun F w Rs' => ∃ p, w = .tuple #[.pointer (some ⟨p, 0, none⟩), .int .i64 0] ∧ Rs' = (p, LOG p (Lg.fresh pd 1 5)) :: (pd, DISK pd (Dk.new N)) :: F := by
  have := wOpen_ok pd (Dk.new N) 1 5 ⟨0, 0, 0, 0⟩ ⟨by decide, by show _ ≤ (List.replicate N _).length; rw [List.length_replicate]; omega⟩ rfl (by decide)
  rw [opn_fresh (by omega) (by decide)] at this
  exact this
theorem live_ok : Spec Try.prog 14 [] [] [] fun F v Rs' => v = .bool true ∧ Rs' = F := by
  refine spec_of Try.func14 rfl Try.ntmps14 rfl ?_
  intro w0 F
  repeat' (first | with_reducible (first | refine go1 ?_ | refine sct ?_ | refine scf ?_ | refine sgr ?_) | ((with_reducible refine sw_call dNew_8 ?_); rintro _ _ ⟨pd, rfl, rfl⟩) | (with_reducible refine sc_cond (fun h => ?_) (fun h => ?_)) <;> (try (exfalso; first | contradiction | omega | exact h Iff.rfl)) | (with_reducible refine sw_guard_split (fun h => ?_) (fun h => ?_)) <;> (try (exfalso; first | contradiction | omega | exact h Iff.rfl)) | (with_reducible refine sw_pick (fun h => ?_) (fun h => ?_)) <;> (try (exfalso; first | contradiction | omega | exact h Iff.rfl)) | fail)
  refine sw_build (Mk.cs ⟨0, 0, 0, 0⟩) (by kernel_rfl) ?_
  repeat' (first | with_reducible (first | refine go1 ?_ | refine sct ?_ | refine scf ?_ | refine sgr ?_) | ((with_reducible refine sw_call (wOpen_new pd 8 (by omega)) ?_); rintro _ _ ⟨p, rfl, rfl⟩) | with_reducible refine sw_buildSlice [Value.int .u8 97] (by omega) rfl fun b7 => ?_ | (with_reducible refine sc_cond (fun h => ?_) (fun h => ?_)) <;> (try (exfalso; first | contradiction | omega | exact h Iff.rfl)) | (with_reducible refine sw_guard_split (fun h => ?_) (fun h => ?_)) <;> (try (exfalso; first | contradiction | omega | exact h Iff.rfl)) | (with_reducible refine sw_pick (fun h => ?_) (fun h => ?_)) <;> (try (exfalso; first | contradiction | omega | exact h Iff.rfl)) | fail)
  have hW := app_wf (pd := pd) (f := 1) (n := 5) (by omega)
  have happ := wAppend_ok p (Lg.fresh pd 1 5) hW b7 (pts b7 (.cells [Value.int .u8 97].toArray 5 (0, 0))) (.slice (some ⟨b7, 0, none⟩) 1 1) [97] (.row b7 0 1 [97] (by decide) reads_row0) byt97 (by decide)
  have hW1 := Lg.app_wf hW byt97
  obtain ⟨a1, a2, a3⟩ := live_app (pd := pd) (f := 1) (n := 5) (by decide)
  rw [a3] at hW1
  rw [a1, a2, a3] at happ
  have hW2 := Lg.flushed_wf hW1
  obtain ⟨m1, m2⟩ := L17_mark pd
  have hfl : Spec Try.prog 41 [.pointer (some ⟨p, 0, none⟩)] [p, pd] [LOG p (L17 pd 1 5), DISK pd (Dk.new 8)]
    fun F w Rs' => ∃ e L' s', w = .int .i64 e ∧ FlT (L17 pd 1 5) (Dk.new 8) e L' s' ∧ Rs' = (p, LOG p L') :: (pd, DISK pd s') :: F := wFlush_ok p (L17 pd 1 5) (Dk.new 8) hW1
  have hmk := wMark_ok p (L17 pd 1 5).flushedL hW2
  have hfd := wFlushed_ok p (L17 pd 1 5).flushedL
  rw [m1] at hmk
  rw [m2] at hfd
  repeat' (first | with_reducible (first | refine go1 ?_ | refine sct ?_ | refine scf ?_ | refine sgr ?_) | ((with_reducible refine sw_call happ ?_); rintro _ _ ⟨rfl, rfl⟩) | ((with_reducible refine sw_call hfl ?_); rintro _ _ ⟨e, L', s', rfl, hFl, rfl⟩; obtain ⟨rfl, rfl⟩ := L17_flush (by omega) hFl) | ((with_reducible refine sw_call hmk ?_); rintro _ _ ⟨rfl, rfl⟩) | ((with_reducible refine sw_call hfd ?_); rintro _ _ ⟨rfl, rfl⟩) | with_reducible refine sw_build (Mk.cs ⟨0, 6, 1, 1⟩) (by kernel_rfl) ?_ | (with_reducible refine sc_cond (fun h => ?_) (fun h => ?_)) <;> (try (exfalso; first | contradiction | omega | exact h Iff.rfl)) | (with_reducible refine sw_guard_split (fun h => ?_) (fun h => ?_)) <;> (try (exfalso; first | contradiction | omega | exact h Iff.rfl)) | (with_reducible refine sw_pick (fun h => ?_) (fun h => ?_)) <;> (try (exfalso; first | contradiction | omega | exact h Iff.rfl)) | fail)
  refine sq_ret1 Try.results14 ?_
  refine ⟨_, ⟨rfl, rfl⟩, ?_⟩
  repeat' (first | with_reducible exact Ent.refl _ | with_reducible refine Ent.take_eq ?_ ?_ | rfl | with_reducible refine Ent.oR ?_ | with_reducible refine Ent.trans (Ent.drop _ _) ?_)
end Go.Gsl

namespace Go.Gsl
set_option linter.unusedVariables false
open Go.Proofs
set_option maxHeartbeats 4000000
theorem clRecs_ok (k : Nat) (r : HProp) (a : Option Addr) (m c : Nat) (src : List Value) (hr : Reads r a src) (h1 : ∀ v ∈ src, v.oneCell' = true) (hl : src.length = m * 2) (hm : m ≤ 2199023255552) :
    Spec Try.prog 79 [.slice a m c] [k] [r] fun F v Rs' => (a = none ∧ v = .slice none 0 0 ∧ Rs' = (k, r) :: F) ∨
      (a ≠ none ∧ ∃ b c2 t, v = .slice (some ⟨b, 0, none⟩) m c2 ∧ m ≤ c2 ∧ (src ++ t).length = c2 * 2 ∧ Rs' = (b, pts b (.cells (src ++ t).toArray 122 (0, 0))) :: (k, r) :: F) := by
  refine spec_of Try.func79 rfl Try.ntmps79 rfl ?_
  intro w0 F
  repeat' (first | with_reducible (first | refine go1 ?_ | refine sct ?_ | refine scf ?_ | refine sgr ?_) | (with_reducible refine sc_cond (fun h => ?_) (fun h => ?_)) <;> (try (exfalso; first | contradiction | omega | exact h Iff.rfl)) | fail)
  · refine sq_ret1 Try.results79 ?_
    exact ⟨_, .inl ⟨by simpa using h, rfl, rfl⟩, Ent.refl _⟩
  · refine sw_buildSlice0 fun b0 => ?_
    repeat' (first | with_reducible (first | refine go1 ?_ | refine sct ?_ | refine scf ?_ | refine sgr ?_) | fail)
    refine sw_appendN (src := src) (fun w hw => hr.sat (k := k) hw) h1 (by kernel_rfl) (by omega) ⟨Nat.le_refl _, rfl, hl, by omega, by omega⟩ fun b t c2 hc2 hl2 => ?_
    simp only [Nat.zero_add, Nat.zero_mul, List.take_nil, List.nil_append] at hc2 hl2 ⊢
    repeat' (first | with_reducible (first | refine go1 ?_ | refine sct ?_ | refine scf ?_ | refine sgr ?_) | fail)
    refine sq_ret1 Try.results79 ?_
    exact ⟨_, .inr ⟨by simpa using h, b, c2, t, rfl, hc2, hl2, rfl⟩, Ent.refl _⟩
/-- of a row that may be nil -/
theorem clRecs_none (k : Nat) (r : HProp) : Spec Try.prog 79 [.slice none 0 0] [k] [r] fun F w Rs' => w = .slice none 0 0 ∧ Rs' = (k, r) :: F :=
  (clRecs_ok k r none 0 0 [] (reads_nil _ _) (fun v hv => by cases hv) rfl (by omega)).mono fun F w Rs' => by
    rintro (⟨_, rfl, rfl⟩ | ⟨h, _⟩)
    · exact ⟨rfl, rfl⟩
    · exact absurd rfl h
/-- a row of one's own, or nil -/
def OwnB (v : Value) (bs : List Int) : HProp := fun h => (v = .slice none 0 0 ∧ bs = []) ∨ ∃ b t, v = .slice (some ⟨b, 0, none⟩) bs.length (bs.length + t.length) ∧ pts b (.cells (bs.map (Value.int .u8) ++ t).toArray 5 (0, 0)) h
theorem clO_ok (k : Nat) (r : HProp) (v : Value) (bs : List Int) (hv : RdB r v bs) (hl : bs.length ≤ 140737488355328) :
    Spec Try.prog 59 [v] [k] [r] fun F w Rs' => ∃ a c, w = .slice a bs.length c ∧ Rs' = (7006, OwnB w bs) :: (k, r) :: F := by
  obtain ⟨a, c, rfl, hs, hc, hr⟩ := hv.gen
  intro w0 F w hw
  refine Calls.mono (clB_ok k r a bs.length c (bs.map (Value.int .u8)) hr (one_ints _ _) (by rw [List.length_map]) hl w0 F w hw) ?_
  rintro x w' ⟨v, Rs', rfl, (⟨h1, rfl, rfl⟩ | ⟨_, b, t, rfl, rfl⟩), hw'⟩
  · have hb : bs = [] := by
      rcases Nat.eq_zero_or_pos bs.length with h | h
      · exact List.eq_nil_of_length_eq_zero h
      · obtain ⟨b, o, h2⟩ := hs h
        rw [h1] at h2
        cases h2
    subst hb
    refine ⟨_, _, rfl, ⟨none, 0, rfl, rfl⟩, hw'.ent ?_⟩
    intro h hh
    exact ⟨fun _ => none, h, fun _ => .inl rfl, by funext i; simp [hjoin], .inl ⟨rfl, rfl⟩, hh⟩
  · exact ⟨_, _, rfl, ⟨_, _, rfl, rfl⟩, hw'.ent (Ent.head fun h hh => .inr ⟨b, t, rfl, hh⟩)⟩
theorem Bag.rdb {L : List (Value × List Int)} {h : Hp} (hb : Bag L h) : ∀ p ∈ L, RdB (Bag L) p.1 p.2 := by
  intro p hp
  rcases hb p hp with ⟨h1, h2⟩ | ⟨b, r, h1, _⟩
  · rw [h1, h2]; exact .nil
  · rw [h1]
    refine .row b 0 _ _ (Nat.le_add_right _ _) fun h' w hh hf j v hj => ?_
    rcases hh p hp with ⟨h2, _⟩ | ⟨b', r', h2, hi⟩
    · rw [h1] at h2; cases h2
    · rw [h1] at h2
      simp only [Value.slice.injEq, Option.some.injEq, Addr.mk.injEq] at h2
      obtain ⟨⟨rfl, _⟩, _, _⟩ := h2
      refine ⟨_, rfl, cell_row (hf _ _ _ hi) ?_⟩
      rw [Nat.zero_add, List.getElem?_append_left (List.getElem?_eq_some_iff.1 hj).1]
      exact hj
/-- what an iterator over records holds -/
def RECS (b3 b4 : Nat) (l : List (Int × List Int)) (num : Int) : HProp := fun h => ∃ o : Option (Nat × Nat × List Value) × List ((Int × List Int) × Value), (NOk 2 (rall o.2) o.2.length o.1 ∧ o.2.map Prod.fst = l) ∧
  hall ((b3, pts b3 (.cells [nV o.2.length o.1].toArray 78 (0, 0))) :: (b4, pts b4 (.cells [.int .i64 num].toArray 2 (0, 0))) :: oR (nG 122 (rall o.2)) [(7007, Bag (rbag o.2))] o.1) h
section
variable {P : Program} {ops : List Oper} {l : List Oper} {Q : Cont} {n0 : Nat} {w0 : World} {e : Env} {Rs F : List Res}
theorem RECS.sc {c : Code} (b3 b4 : Nat) (l : List (Int × List Int)) (num : Int) [tk : Take Rs b3 (RECS b3 b4 l num) F]
    (q : ∀ o (rs : List ((Int × List Int) × Value)), NOk 2 (rall rs) rs.length o → rs.map Prod.fst = l →
      SC P Q n0 w0 c e ((b3, pts b3 (.cells [nV rs.length o].toArray 78 (0, 0))) :: (b4, pts b4 (.cells [.int .i64 num].toArray 2 (0, 0))) :: oR (nG 122 (rall rs)) ((7007, Bag (rbag rs)) :: F) o)) : SC P Q n0 w0 c e Rs := by
  refine sc_opn (k := b3) (fun o : Option (Nat × Nat × List Value) × List ((Int × List Int) × Value) => NOk 2 (rall o.2) o.2.length o.1 ∧ o.2.map Prod.fst = l) (fun o => hall ((b3, pts b3 (.cells [nV o.2.length o.1].toArray 78 (0, 0))) :: (b4, pts b4 (.cells [.int .i64 num].toArray 2 (0, 0))) :: oR (nG 122 (rall o.2)) [(7007, Bag (rbag o.2))] o.1)) (fun x hx => hx) fun o ho => ?_
  refine sc_ent (Ent.hall_open b3 _ _) ?_
  obtain ⟨o1, rs⟩ := o
  have := q o1 rs ho.1 ho.2
  rw [List.cons_append, List.cons_append, oR_app]
  exact this
theorem RECS.close {b3 b4 : Nat} {l : List (Int × List Int)} {num : Int} {o : Option (Nat × Nat × List Value)} {rs : List ((Int × List Int) × Value)} (h1 : NOk 2 (rall rs) rs.length o) (h2 : rs.map Prod.fst = l) :
    Ent ((b3, pts b3 (.cells [nV rs.length o].toArray 78 (0, 0))) :: (b4, pts b4 (.cells [.int .i64 num].toArray 2 (0, 0))) :: oR (nG 122 (rall rs)) ((7007, Bag (rbag rs)) :: F) o) ((b3, RECS b3 b4 l num) :: F) := by
  have h5 := Ent.hall_close b3 ((b3, pts b3 (.cells [nV rs.length o].toArray 78 (0, 0))) :: (b4, pts b4 (.cells [.int .i64 num].toArray 2 (0, 0))) :: oR (nG 122 (rall rs)) [(7007, Bag (rbag rs))] o) F
  rw [List.cons_append, List.cons_append, oR_app] at h5
  exact h5.trans (Ent.head fun h hh => ⟨(o, rs), ⟨h1, h2⟩, hh⟩)
end
theorem Bag.fp {L : List (Value × List Int)} {h : Hp} (hb : Bag L h) : Bag L (fpart h) := fun p hp => (hb p hp).fp
theorem rall_one {rs : List ((Int × List Int) × Value)} {h : Hp} (hb : Bag (rbag rs) h) : ∀ v ∈ rall rs, v.oneCell' = true := by
  intro v hv
  obtain ⟨r, hr, hv⟩ := List.mem_flatMap.1 hv
  exact rcs_one (hb (r.2, r.1.2) (List.mem_map.2 ⟨r, hr, rfl⟩)).one v hv
theorem wRecords_ok (p : Nat) (L : Lg) : Spec Try.prog 35 [.pointer (some ⟨p, 0, none⟩)] [p] [LOG p L]
    fun F w Rs' => ∃ b3 b4, w = .func (.func 80) #[] #[.pointer (some ⟨b3, 0, none⟩), .pointer (some ⟨b4, 0, none⟩)] ∧ Rs' = (b3, RECS b3 b4 L.l L.first.number) :: (p, LOG p L) :: F := by
  refine spec_of Try.func35 rfl Try.ntmps35 rfl ?_
  intro w0 F
  repeat' (first | with_reducible (first | refine go1 ?_ | refine sct ?_ | refine scf ?_ | refine sgr ?_) | fail)
  refine sw_alloc fun b3 => ?_
  repeat' (first | with_reducible (first | refine go1 ?_ | refine sct ?_ | refine scf ?_ | refine sgr ?_) | fail)
  refine sw_alloc fun b4 => ?_
  repeat' (first | with_reducible (first | refine go1 ?_ | refine sct ?_ | refine scf ?_ | refine sgr ?_) | with_reducible refine sw_store ?_ | ((with_reducible refine sw_call (wNone_ok p L) ?_); rintro _ _ ⟨rfl, rfl⟩) | (with_reducible refine sc_cond (fun h => ?_) (fun h => ?_)) <;> (try (exfalso; first | contradiction | omega | exact h Iff.rfl)) | fail)
  refine LOG.sc p L fun o1 o2 o3 rs hW ho1 ho2 hN hrs => ?_
  have hm := hW.many
  have hll : rs.length = L.l.length := by rw [← hrs, List.length_map]
  refine sc_opn (k := 7002) (r := Bag (rbag rs)) (α := Unit) (fun _ => ∀ v ∈ rall rs, v.oneCell' = true) (fun _ => Bag (rbag rs)) (fun x hx => ⟨(), rall_one hx, hx⟩) fun _ hone => ?_
  rcases o3 with _ | ⟨b5, c5, t5⟩
  · have C1 : Spec Try.prog 79 [nV rs.length none] [b3] [pts b3 (.cells [.slice none 0 0].toArray 78 (0, 0))] fun F w Rs' => w = nV rs.length none ∧ Rs' = (b3, pts b3 (.cells [.slice none 0 0].toArray 78 (0, 0))) :: F := clRecs_none _ _
    rw [nG_none]
    refine sc_lin ([(p, pts p (lobj L.d L.f L.n L.run L.began L.base (bufV L.row.length o1) (bufV L.runs.length o2) L.first (nV rs.length none) L.sure L.flushed L.dirty))]) (llp 0 (llp 1 (llp 2 (llp 3 (llp 5 (llp 6 (llp 7 (llp 8 (llp 9 (lle 4 (lle 10 (lle 11 ll0)))))))))))) (by kernel_rfl) rfl (by kernel_rfl) ?_
    all_goals (iterate 9 refine go1l ?_)
    all_goals refine sl_eff ?_
    all_goals (repeat' (first | with_reducible (first | refine go1 ?_ | refine sct ?_ | refine scf ?_ | refine sgr ?_) | with_reducible refine sw_store ?_ | ((with_reducible refine sw_call C1 ?_); rintro _ _ ⟨rfl, rfl⟩) | with_reducible refine sl_back ?_ | fail))
    all_goals refine sl_eff ?_
    all_goals (repeat' (first | with_reducible (first | refine go1 ?_ | refine sct ?_ | refine scf ?_ | refine sgr ?_) | with_reducible refine sw_store ?_ | ((with_reducible refine sw_call C1 ?_); rintro _ _ ⟨rfl, rfl⟩) | with_reducible refine sl_back ?_ | fail))
    all_goals refine sl_eff ?_
    all_goals (repeat' (first | with_reducible (first | refine go1 ?_ | refine sct ?_ | refine scf ?_ | refine sgr ?_) | with_reducible refine sw_store ?_ | ((with_reducible refine sw_call C1 ?_); rintro _ _ ⟨rfl, rfl⟩) | with_reducible refine sl_back ?_ | fail))
    all_goals refine sl_done ?_
    repeat' (first | with_reducible (first | refine go1 ?_ | refine sct ?_ | refine scf ?_ | refine sgr ?_) | fail)
    refine sq_ret1 Try.results35 ?_
    refine ⟨_, ⟨b3, b4, rfl, rfl⟩, ?_⟩
    refine Ent.trans (Ent.dup_take (k := 7002) (k' := 7007) (r' := Bag (rbag rs)) fun _ h => Bag.fp h) ?_
    refine Ent.trans (B := (b3, pts b3 (.cells [nV rs.length none].toArray 78 (0, 0))) :: (b4, pts b4 (.cells [.int .i64 L.first.number].toArray 2 (0, 0))) :: (7007, Bag (rbag rs)) :: (p, LOG p L) :: F) ?_ (RECS.close (o := none) hN hrs)
    refine Ent.trans ?_ (Ent.cons _ (Ent.cons _ (Ent.cons _ (LOG.close hW ho1 ho2 hN hrs))))
    rw [nG_none]
    repeat' (first | with_reducible exact Ent.refl _ | with_reducible refine Ent.take_eq ?_ ?_ | rfl | with_reducible refine Ent.oR ?_ | with_reducible refine Ent.trans (Ent.drop _ _) ?_)
  · obtain ⟨q4, q5⟩ := hN.2.2 b5 c5 t5 rfl
    have C1 : Spec Try.prog 79 [nV rs.length (some (b5, c5, t5))] [b5] [pts b5 (.cells (rall rs ++ t5).toArray 122 (0, 0))] fun F w Rs' => ∃ b c2 t, w = nV rs.length (some (b, c2, t)) ∧ NOk 2 (rall rs) rs.length (some (b, c2, t)) ∧ Rs' = (b, pts b (.cells (rall rs ++ t).toArray 122 (0, 0))) :: (b5, pts b5 (.cells (rall rs ++ t5).toArray 122 (0, 0))) :: F := by
      refine (clRecs_ok b5 _ (some ⟨b5, 0, none⟩) rs.length c5 (rall rs) reads_row hone (rall_len rs) (by omega)).mono fun F w Rs' => ?_
      rintro (⟨h, _⟩ | ⟨_, b, c2, t, rfl, h1, h2, rfl⟩)
      · cases h
      · exact ⟨b, c2, t, rfl, ⟨hN.1, (fun h => by cases h), fun b' c' t' h => by cases h; exact ⟨h1, h2⟩⟩, rfl⟩
    rw [nG_some]
    refine sc_lin ([(p, pts p (lobj L.d L.f L.n L.run L.began L.base (bufV L.row.length o1) (bufV L.runs.length o2) L.first (nV rs.length (some (b5, c5, t5))) L.sure L.flushed L.dirty))]) (llp 0 (llp 1 (llp 2 (llp 3 (llp 5 (llp 6 (llp 7 (llp 8 (llp 9 (lle 4 (lle 10 (lle 11 ll0)))))))))))) (by kernel_rfl) rfl (by kernel_rfl) ?_
    all_goals (iterate 9 refine go1l ?_)
    all_goals refine sl_eff ?_
    all_goals (repeat' (first | with_reducible (first | refine go1 ?_ | refine sct ?_ | refine scf ?_ | refine sgr ?_) | with_reducible refine sw_store ?_ | ((with_reducible refine sw_call C1 ?_); rintro _ _ ⟨b6, c6, t6, rfl, hN6, rfl⟩) | with_reducible refine sl_back ?_ | fail))
    all_goals refine sl_eff ?_
    all_goals (repeat' (first | with_reducible (first | refine go1 ?_ | refine sct ?_ | refine scf ?_ | refine sgr ?_) | with_reducible refine sw_store ?_ | ((with_reducible refine sw_call C1 ?_); rintro _ _ ⟨b6, c6, t6, rfl, hN6, rfl⟩) | with_reducible refine sl_back ?_ | fail))
    all_goals refine sl_eff ?_
    all_goals (repeat' (first | with_reducible (first | refine go1 ?_ | refine sct ?_ | refine scf ?_ | refine sgr ?_) | with_reducible refine sw_store ?_ | ((with_reducible refine sw_call C1 ?_); rintro _ _ ⟨b6, c6, t6, rfl, hN6, rfl⟩) | with_reducible refine sl_back ?_ | fail))
    all_goals refine sl_done ?_
    repeat' (first | with_reducible (first | refine go1 ?_ | refine sct ?_ | refine scf ?_ | refine sgr ?_) | fail)
    refine sq_ret1 Try.results35 ?_
    refine ⟨_, ⟨b3, b4, rfl, rfl⟩, ?_⟩
    refine Ent.trans (Ent.dup_take (k := 7002) (k' := 7007) (r' := Bag (rbag rs)) fun _ h => Bag.fp h) ?_
    refine Ent.trans (B := (b3, pts b3 (.cells [nV rs.length (some (b6, c6, t6))].toArray 78 (0, 0))) :: (b4, pts b4 (.cells [.int .i64 L.first.number].toArray 2 (0, 0))) :: (b6, pts b6 (.cells (rall rs ++ t6).toArray 122 (0, 0))) :: (7007, Bag (rbag rs)) :: (p, LOG p L) :: F) ?_ (RECS.close (o := some (b6, c6, t6)) hN6 hrs)
    refine Ent.trans ?_ (Ent.cons _ (Ent.cons _ (Ent.cons _ (Ent.cons _ (LOG.close hW ho1 ho2 hN hrs)))))
    rw [nG_some]
    repeat' (first | with_reducible exact Ent.refl _ | with_reducible refine Ent.take_eq ?_ ?_ | rfl | with_reducible refine Ent.oR ?_ | with_reducible refine Ent.trans (Ent.drop _ _) ?_)
end Go.Gsl

namespace Go.Gsl
set_option linter.unusedVariables false
open Go.Proofs
set_option maxHeartbeats 4000000
abbrev RecY := Int × List Int × Value
def RecY.key (x : RecY) : Int × List Int := (x.1, x.2.1)
/-- records with their numbers -/
def numL (num : Int) (l : List (Int × List Int)) : List (Int × List Int) := l.mapIdx fun i r => (num + i, r.2)
theorem numL_get (num : Int) (l : List (Int × List Int)) (i : Nat) : (numL num l)[i]? = (l[i]?).map fun r => (num + i, r.2) := by unfold numL; rw [List.getElem?_mapIdx]
theorem numL_len (num : Int) (l : List (Int × List Int)) : (numL num l).length = l.length := by unfold numL; rw [List.length_mapIdx]
def RecNx (num : Int) (l : List (Int × List Int)) (pre : List RecY) (x : RecY) : Prop := (numL num l)[pre.length]? = some x.key ∧ pre.map RecY.key = (numL num l).take pre.length
def RecDn (num : Int) (l : List (Int × List Int)) (xs : List RecY) : Prop := xs.map RecY.key = numL num l
def RecX (x : RecY) : HProp := OwnB x.2.2 x.2.1
def RecE (x : RecY) : Value × Value := (.int .i64 x.1, x.2.2)
theorem rall_at {rs : List ((Int × List Int) × Value)} {i : Nat} {x : (Int × List Int) × Value} {t : List Value} (h : rs[i]? = some x) : ((rall rs ++ t).drop (i * 2)).take 2 = rcs x := by
  induction rs generalizing i with
  | nil => simp at h
  | cons y rs ih =>
    cases i with
    | zero =>
      simp only [List.getElem?_cons_zero, Option.some.injEq] at h
      subst h
      rfl
    | succ i =>
      rw [List.getElem?_cons_succ] at h
      have h2 : (rall (y :: rs) ++ t).drop ((i + 1) * 2) = (rall rs ++ t).drop (i * 2) := by
        rw [show (i + 1) * 2 = 2 + i * 2 by omega, ← List.drop_drop]
        rfl
      rw [h2]
      exact ih h
theorem wRecords1_iter (b3 b4 : Nat) (l : List (Int × List Int)) (num : Int) (hnum : 0 ≤ num ∧ num ≤ 1099511627776) (hl : l.length ≤ 2199023255552) (hsz : ∀ r ∈ l, r.2.length ≤ 65536) :
    IterS Try.prog 80 [.pointer (some ⟨b3, 0, none⟩), .pointer (some ⟨b4, 0, none⟩)] [b3] [RECS b3 b4 l num] [RECS b3 b4 l num] RecE RecX (RecNx num l) (RecDn num l) := by
  intro lp J Jx hy
  refine spec_of Try.func80 rfl Try.ntmps80 rfl ?_
  intro w0 F
  refine RECS.sc b3 b4 l num fun o rs hN hrs => ?_
  have hll : rs.length = l.length := by rw [← hrs, List.length_map]
  have hl3 : o = none → rs.length = 0 := fun h => (hN.2.1 h).2
  repeat' (first | with_reducible (first | refine go1 ?_ | refine sct ?_ | refine scf ?_ | refine sgr ?_) | fail)
  refine sw_op (h := runop_lenNV o hl3) ?_
  repeat' (first | with_reducible (first | refine go1 ?_ | refine sct ?_ | refine scf ?_ | refine sgr ?_) | fail)
  refine sc_loop (α := { pre : List RecY // pre.length ≤ rs.length ∧ pre.map RecY.key = (numL num l).take pre.length }) (fun pre => [(0, .func (.yield lp) #[] #[]), (1, .pointer (some ⟨b3, 0, none⟩)), (2, .pointer (some ⟨b4, 0, none⟩)), (6, nV rs.length o), (7, .int .i64 rs.length), (8, .int .i64 pre.1.length)])
    (fun pre => (lp, J pre.1) :: (b3, pts b3 (.cells [nV rs.length o].toArray 78 (0, 0))) :: (b4, pts b4 (.cells [.int .i64 num].toArray 2 (0, 0))) :: oR (nG 122 (rall rs)) ((7007, Bag (rbag rs)) :: F) o) (fun pre => rs.length - pre.1.length)
    ⟨[], Nat.zero_le _, by simp⟩ ?_ ?_ ?_
  · repeat' (first | exact says_nil | refine says_cons rfl ?_ | refine says_cons (by simp) ?_)
  · repeat' (first | with_reducible exact Ent.refl _ | with_reducible refine Ent.take_eq ?_ ?_ | rfl | with_reducible refine Ent.oR ?_ | with_reducible refine Ent.trans (Ent.drop _ _) ?_)
  rintro ⟨pre, hpl, hpre⟩ e
  (try simp only at hpl hpre)
  simp only [List.cons_append, List.nil_append]
  repeat' (first | with_reducible (first | refine go1 ?_ | refine sct ?_ | refine scf ?_ | refine sgr ?_) | (with_reducible refine sc_cond (fun h => ?_) (fun h => ?_)) <;> (try (exfalso; first | contradiction | omega | exact h Iff.rfl)) | fail)
  · have hlt : pre.length < rs.length := by omega
    obtain ⟨⟨⟨at', bs⟩, v⟩, hx⟩ : ∃ x, rs[pre.length]? = some x := ⟨_, List.getElem?_eq_getElem hlt⟩
    have hlx : l[pre.length]? = some (at', bs) := by rw [← hrs, List.getElem?_map, hx]; rfl
    have hbl : bs.length ≤ 65536 := hsz _ (List.mem_of_getElem? hlx)
    rcases o with _ | ⟨b5, c5, t5⟩
    · have := hl3 rfl
      omega
    have hra := rall_at (t := t5) hx
    have hmem : (v, bs) ∈ rbag rs := List.mem_map.2 ⟨_, List.mem_of_getElem? hx, rfl⟩
    rw [nG_some]
    rw [show nV rs.length (some (b5, c5, t5)) = .slice (some ⟨b5, 0, none⟩) rs.length c5 from rfl]
    refine sw_opn (k := 7007) (r := Bag (rbag rs)) (α := Unit) (fun _ => RdB (Bag (rbag rs)) v bs) (fun _ => Bag (rbag rs)) (fun x hx => ⟨(), hx.rdb _ hmem, hx⟩) fun _ hrd => ?_
    obtain ⟨av, cv, rfl, _, _, _⟩ := hrd.gen
    refine sw_op (h := runop_indexN pre.length (by omega)) ?_
    refine sw_op (h := runop_loadPart [.int .i64 at', .slice av bs.length cv] rfl (by rw [Nat.zero_add]; exact hra)) ?_
    refine sw_alloc fun b9 => ?_
    repeat' (first | with_reducible (first | refine go1 ?_ | refine sct ?_ | refine scf ?_ | refine sgr ?_) | fail)
    refine sw_store_agg ?_
    have hnl : (numL num l)[pre.length]? = some (num + pre.length, bs) := by rw [numL_get, hlx]; rfl
    have hY : ∀ a2 c2, SpecY Try.prog lp [.int .i64 (num + pre.length), .slice a2 bs.length c2] [lp, 7006] [J pre, OwnB (.slice a2 bs.length c2) bs]
        fun F v Rs' => (v = .bool true ∧ Rs' = (lp, J (pre ++ [(num + pre.length, bs, .slice a2 bs.length c2)])) :: F) ∨ (v = .bool false ∧ Rs' = (lp, Jx (pre ++ [(num + pre.length, bs, .slice a2 bs.length c2)])) :: F) :=
      fun a2 c2 => hy pre (num + pre.length, bs, .slice a2 bs.length c2) ⟨hnl, hpre⟩
    repeat' (first | with_reducible (first | refine go1 ?_ | refine sct ?_ | refine scf ?_ | refine sgr ?_) | fail)
    refine sc_lin ([(b4, pts b4 (.cells [.int .i64 num].toArray 2 (0, 0))), (b9, pts b9 (.cells [.int .i64 at', .slice av bs.length cv].toArray 122 (0, 0)))]) (llp 0 (llp 1 (llp 2 (llp 3 (llp 4 (llp 5 (lle 6 (lle 7 (llp 8 ll0))))))))) (by kernel_rfl) rfl (by kernel_rfl) ?_
    all_goals (iterate 3 refine go1l ?_)
    all_goals (first | refine sl_in (by omega) ?_ | refine go1l ?_)
    all_goals (iterate 2 refine go1l ?_)
    all_goals refine sl_eff ?_
    all_goals (repeat' (first | with_reducible (first | refine go1 ?_ | refine sct ?_ | refine scf ?_ | refine sgr ?_) | ((with_reducible refine sw_call (clO_ok 7007 _ _ bs hrd (by omega)) ?_); rintro _ _ ⟨a2, c2, rfl, rfl⟩) | ((with_reducible refine sw_yield rfl (hY a2 c2) ?_); rintro _ _ (⟨rfl, rfl⟩ | ⟨rfl, rfl⟩)) | with_reducible refine sl_back ?_ | fail))
    all_goals refine sl_eff ?_
    all_goals (repeat' (first | with_reducible (first | refine go1 ?_ | refine sct ?_ | refine scf ?_ | refine sgr ?_) | ((with_reducible refine sw_call (clO_ok 7007 _ _ bs hrd (by omega)) ?_); rintro _ _ ⟨a2, c2, rfl, rfl⟩) | ((with_reducible refine sw_yield rfl (hY a2 c2) ?_); rintro _ _ (⟨rfl, rfl⟩ | ⟨rfl, rfl⟩)) | with_reducible refine sl_back ?_ | fail))
    all_goals refine go1l ?_
    all_goals refine sl_done ?_
    · repeat' (first | with_reducible refine sw_i64 (by omega) ?_ | with_reducible (first | refine go1 ?_ | refine sct ?_ | refine scf ?_ | refine sgr ?_) | fail)
      refine sq_round ⟨pre ++ [(num + pre.length, bs, .slice a2 bs.length c2)], ?_, ?_⟩ ?_ ?_ ?_
      · rw [List.length_append, List.length_singleton]
        omega
      · rw [List.map_append, hpre, List.length_append, List.length_singleton, List.take_add_one, hnl]
        rfl
      · show rs.length - (pre ++ [_]).length < rs.length - pre.length
        rw [List.length_append, List.length_singleton]
        omega
      · dsimp only
        rw [List.length_append, List.length_singleton, show ((pre.length + 1 : Nat) : Int) = (pre.length : Int) + 1 by omega]
        repeat' (first | exact says_nil | refine says_cons rfl ?_ | refine says_cons (by simp) ?_)
      · dsimp only
        repeat' (first | with_reducible exact Ent.refl _ | with_reducible refine Ent.take_eq ?_ ?_ | rfl | with_reducible refine Ent.oR ?_ | with_reducible refine Ent.trans (Ent.drop _ _) ?_)
    · repeat' (first | with_reducible (first | refine go1 ?_ | refine sct ?_ | refine scf ?_ | refine sgr ?_) | fail)
      refine sq_ret0 Try.results80 ?_
      refine ⟨_, ⟨rfl, .inr ⟨pre, (num + pre.length, bs, .slice a2 bs.length c2), ⟨hnl, hpre⟩, rfl⟩⟩, ?_⟩
      simp only [List.zip_cons_cons, List.zip_nil_left, List.cons_append, List.nil_append]
      refine Ent.trans ?_ (Ent.cons _ (RECS.close (o := some (b5, c5, t5)) hN hrs))
      rw [nG_some]
      repeat' (first | with_reducible exact Ent.refl _ | with_reducible refine Ent.take_eq ?_ ?_ | rfl | with_reducible refine Ent.oR ?_ | with_reducible refine Ent.trans (Ent.drop _ _) ?_)
  · refine sq_end0 Try.results80 ?_
    refine ⟨_, ⟨rfl, .inl ⟨pre, ?_, rfl⟩⟩, ?_⟩
    · show pre.map RecY.key = numL num l
      rw [hpre, List.take_of_length_le (by rw [numL_len]; omega)]
    · simp only [List.zip_cons_cons, List.zip_nil_left, List.cons_append, List.nil_append]
      refine Ent.trans ?_ (Ent.cons _ (RECS.close hN hrs))
      repeat' (first | with_reducible exact Ent.refl _ | with_reducible refine Ent.take_eq ?_ ?_ | rfl | with_reducible refine Ent.oR ?_ | with_reducible refine Ent.trans (Ent.drop _ _) ?_)
end Go.Gsl
