/- WalHeads. -/
import Derived.Test.YtbmdaiopnnmamaaGY
import Derived.Test.YtbmdaiopnnmamaaGK
namespace Go.Gsl
set_option linter.unusedVariables false
open Go.Proofs Go.RowKit Go.ChangeShapes Go.WideShapes
set_option maxHeartbeats 4000000
theorem cut_at {A B C : List Int} {i n : Nat} (hA : A.length = i) (hB : B.length = n) : ((A ++ (B ++ C)).drop i).take n = B := by
  subst hA; subst hB
  rw [List.drop_left', List.take_left']
  · rfl
  · rfl
/-- a sector's bytes say what they were made of -/
theorem unh_hdSec {seq run began : Int} {data : List Int} (h : HdOk seq run began data.length) (hb : Byt data) :
    unhE (hdSec seq run began data) = 0 ∧ uhSeq (hdSec seq run began data) = seq ∧ uhRun (hdSec seq run began data) = run ∧ uhBegan (hdSec seq run began data) = began ∧ uhData (hdSec seq run began data) = data := by
  have h' := h
  obtain ⟨h1, h2, h3, h4⟩ := h
  have h1' : 0 ≤ seq ∧ seq ≤ 1099511627776 := h1
  have h2' : 0 ≤ run ∧ run ≤ 1099511627776 := h2
  have h3' : 0 ≤ began ∧ began ≤ 529964604588032 := h3
  have p8 : (256 : Int) ^ 8 = 18446744073709551616 := by decide
  have p2 : (256 : Int) ^ 2 = 65536 := by decide
  have p4 : (256 : Int) ^ 4 = 4294967296 := by decide
  have ha := adler_in (hdRest seq run began data)
  obtain ⟨S, hS⟩ : ∃ S, S = hdSec seq run began data := ⟨_, rfl⟩
  have hlen : S.length = 512 := by rw [hS]; exact hdSec_len h4
  have e0 : S = le 4 (adler (hdRest seq run began data)) ++ hdRest seq run began data := hS
  have e1 : S = le 4 (adler (hdRest seq run began data)) ++ (le 8 seq ++ (le 8 run ++ (le 8 began ++ (le 2 data.length ++ (data ++ List.replicate (482 - data.length) 0))))) := by
    rw [e0]; unfold hdRest; simp only [List.append_assoc]
  have c1 : (S.drop 4).take 8 = le 8 seq := by rw [e1]; exact cut_at (le_len _ _) (le_len _ _)
  have c2 : (S.drop 12).take 8 = le 8 run := by
    rw [e1, ← List.append_assoc]; exact cut_at (by rw [List.length_append, le_len, le_len]) (le_len _ _)
  have c3 : (S.drop 20).take 8 = le 8 began := by
    rw [e1, ← List.append_assoc, ← List.append_assoc]; exact cut_at (by rw [List.length_append, List.length_append, le_len, le_len, le_len]) (le_len _ _)
  have c4 : (S.drop 28).take 2 = le 2 data.length := by
    rw [e1, ← List.append_assoc, ← List.append_assoc, ← List.append_assoc]; exact cut_at (by rw [List.length_append, List.length_append, List.length_append, le_len, le_len, le_len, le_len]) (le_len _ _)
  have hpre : (le 4 (adler (hdRest seq run began data)) ++ le 8 seq ++ le 8 run ++ le 8 began ++ le 2 data.length).length = 30 := by
    rw [List.length_append, List.length_append, List.length_append, List.length_append, le_len, le_len, le_len, le_len, le_len]
  have c5 : (S.drop 30).take data.length = data := by
    rw [e1, ← List.append_assoc, ← List.append_assoc, ← List.append_assoc, ← List.append_assoc]; exact cut_at hpre rfl
  have hN : uhN S = data.length := by
    unfold uhN
    rw [c4, ofLE_le (by omega) (by rw [p2]; omega)]
    omega
  have s1 : uhSeq S = seq := by unfold uhSeq; rw [c1, ofLE_le h1'.1 (by rw [p8]; omega)]
  have s2 : uhRun S = run := by unfold uhRun; rw [c2, ofLE_le h2'.1 (by rw [p8]; omega)]
  have s3 : uhBegan S = began := by unfold uhBegan; rw [c3, ofLE_le h3'.1 (by rw [p8]; omega)]
  have s4 : uhData S = data := by unfold uhData; rw [hN, c5]
  have hz : AllZ (S.drop (30 + uhN S)) := by
    rw [hN]
    have : S.drop (30 + data.length) = List.replicate (482 - data.length) 0 := by
      rw [e1, ← List.append_assoc, ← List.append_assoc, ← List.append_assoc, ← List.append_assoc, ← List.append_assoc]
      exact List.drop_left' (by rw [List.length_append, hpre])
    rw [this]
    exact fun x hx => List.eq_of_mem_replicate hx
  have hd4 : S.drop 4 = hdRest seq run began data := by rw [e0]; exact List.drop_left' (le_len _ _)
  have ht4 : ofLE (S.take 4) = adler (hdRest seq run began data) := by
    have : S.take 4 = le 4 (adler (hdRest seq run began data)) := by rw [e0]; exact List.take_left' (le_len _ _)
    rw [this, ofLE_le ha.1 (by rw [p4]; omega)]
  have hE : unhE S = 0 := by
    unfold unhE
    rw [if_neg (by omega), if_neg (by rw [hd4, ht4]; exact fun h => h rfl), if_pos ⟨by rw [s1, s2, s3, hN]; exact h', hz⟩]
  rw [← hS]
  exact ⟨hE, s1, s2, s3, s4⟩
theorem bEqual_nil2 (k1 k2 : Nat) (r1 r2 : HProp) : Spec Try.prog 15 [.slice none 0 0, .slice none 0 0] [k1, k2] [r1, r2] fun F v Rs' => v = .bool true ∧ Rs' = (k1, r1) :: (k2, r2) :: F :=
  bEqual_bx k1 k2 r1 r2 _ _ [] RdB.nil.bx RdB.nil.bx (fun x hx => by cases hx)
set_option maxRecDepth 20000 in
theorem l17Heads_ok (W : World) (m : Mk) (v u : Value) (bs rs : List Int) (hv : RdBx (ro W) v bs) (hb : Byt bs) (hl : bs.length ≤ 140737488355328) (hu : RdBx (ro W) u rs) (hrb : Byt rs) (hrl : rs.length ≤ 140737488355328) :
    Spec Try.prog 3 [.agg m.cs.toArray, v, u] [0] [ro W] fun F w Rs' => w = .bool true ∧ ∃ G, Rs' = (0, ro W) :: G := by
  haveI := hv.one
  obtain ⟨au, cu, rfl, _, _, hur⟩ := id hu
  refine spec_of Try.func3 rfl Try.ntmps3 rfl ?_
  intro w0 F
  unfold Mk.cs
  repeat' (first | with_reducible (first | refine go1 ?_ | refine sct ?_ | refine scf ?_ | refine sgr ?_) | fail)
  refine sw_box fun bm => ?_
  repeat' (first | with_reducible (first | refine go1 ?_ | refine sct ?_ | refine scf ?_ | refine sgr ?_) | fail)
  refine sw_call (wHead_bx 0 (ro W) m.sector m.run m.number v bs hv hb hl) ?_
  rintro _ _ (⟨hH, rfl, rfl⟩ | ⟨hH, b1, t1, rfl, rfl⟩)
  · repeat' (first | with_reducible (first | refine go1 ?_ | refine sct ?_ | refine scf ?_ | refine sgr ?_) | fail)
    refine sw_call (q17Head_ok 0 (ro W) m.sector m.run m.number v bs hv hb hl) ?_
    rintro _ _ (⟨_, rfl, rfl⟩ | ⟨hH2, _⟩)
    · repeat' (first | with_reducible (first | refine go1 ?_ | refine sct ?_ | refine scf ?_ | refine sgr ?_) | ((with_reducible refine sw_call live_ok ?_); rintro _ _ ⟨rfl, rfl⟩) | ((with_reducible refine sw_call (bEqual_nil2 0 bm (ro W) (pts bm (mobj m))) ?_); rintro _ _ ⟨rfl, rfl⟩) | (with_reducible refine sw_guard_split (fun h => ?_) (fun h => ?_)) <;> (try (exfalso; first | contradiction | omega | exact h Iff.rfl)) | (with_reducible refine sc_cond (fun h => ?_) (fun h => ?_)) <;> (try (exfalso; first | contradiction | omega | exact h Iff.rfl)) | (with_reducible refine sw_pick (fun h => ?_) (fun h => ?_)) <;> (try (exfalso; first | contradiction | omega | exact h Iff.rfl)) | fail)
      -- 0: the key; rs: the bytes; hu: that they can be read; hrb: their range; hrl: their length
      refine sw_call (wUnhead_bx 0 _ _ rs (hu) hrb hrl) ?_
      rintro _ _ (⟨hE1, rfl, rfl⟩ | ⟨hE1, b8, t8, rfl, rfl⟩)
      · repeat' (first | with_reducible (first | refine go1 ?_ | refine sct ?_ | refine scf ?_ | refine sgr ?_) | fail)
        refine sw_call (q17Unhead_ok 0 _ _ rs (hu) hrb hrl) ?_
        rintro _ _ (⟨_, rfl, rfl⟩ | ⟨hE2, _⟩)
        · repeat' (first | with_reducible (first | refine go1 ?_ | refine sct ?_ | refine scf ?_ | refine sgr ?_) | ((with_reducible refine sw_call (bEqual_nil2 0 bm (ro W) (pts bm (mobj m))) ?_); rintro _ _ ⟨rfl, rfl⟩) | (with_reducible refine sw_guard_split (fun h => ?_) (fun h => ?_)) <;> (try (exfalso; first | contradiction | omega | exact h Iff.rfl)) | (with_reducible refine sc_cond (fun h => ?_) (fun h => ?_)) <;> (try (exfalso; first | contradiction | omega | exact h Iff.rfl)) | (with_reducible refine sw_pick (fun h => ?_) (fun h => ?_)) <;> (try (exfalso; first | contradiction | omega | exact h Iff.rfl)) | fail)
          refine sq_ret1 Try.results3 ?_
          refine ⟨_, ⟨by simp, F, rfl⟩, ?_⟩
          repeat' (first | with_reducible exact Ent.refl _ | with_reducible refine Ent.take_eq ?_ ?_ | rfl | with_reducible refine Ent.oR ?_ | with_reducible refine Ent.trans (Ent.drop _ _) ?_)
        · exact absurd hE2 hE1
      · repeat' (first | with_reducible (first | refine go1 ?_ | refine sct ?_ | refine scf ?_ | refine sgr ?_) | fail)
        refine sw_call (q17Unhead_ok 0 _ _ rs (hu) hrb hrl) ?_
        rintro _ _ (⟨hE2, _⟩ | ⟨_, a9, c9, rfl, hrd9, rfl⟩)
        · exact absurd hE1 hE2
        · have hrd8 : RdB (pts b8 (.cells ((uhData rs).map (Value.int .u8) ++ t8).toArray 5 (0, 0))) (.slice (some ⟨b8, 0, none⟩) (uhData rs).length ((uhData rs).length + t8.length)) (uhData rs) := .row b8 0 _ _ (Nat.le_add_right _ _) reads_row
          have hdb : Byt (uhData rs) := (hrb).sub _ _
          repeat' (first | with_reducible (first | refine go1 ?_ | refine sct ?_ | refine scf ?_ | refine sgr ?_) | ((with_reducible refine sw_call (bEqual_bx b8 0 _ _ _ _ (uhData rs) hrd8.bx hrd9.bx hdb) ?_); rintro _ _ ⟨rfl, rfl⟩) | (with_reducible refine sw_guard_split (fun h => ?_) (fun h => ?_)) <;> (try (exfalso; first | contradiction | omega | exact h Iff.rfl)) | (with_reducible refine sc_cond (fun h => ?_) (fun h => ?_)) <;> (try (exfalso; first | contradiction | omega | exact h Iff.rfl)) | (with_reducible refine sw_pick (fun h => ?_) (fun h => ?_)) <;> (try (exfalso; first | contradiction | omega | exact h Iff.rfl)) | fail)
          refine sq_ret1 Try.results3 ?_
          refine ⟨_, ⟨by simp, F, rfl⟩, ?_⟩
          repeat' (first | with_reducible exact Ent.refl _ | with_reducible refine Ent.take_eq ?_ ?_ | rfl | with_reducible refine Ent.oR ?_ | with_reducible refine Ent.trans (Ent.drop _ _) ?_)
    · exact absurd hH2 hH
  · repeat' (first | with_reducible (first | refine go1 ?_ | refine sct ?_ | refine scf ?_ | refine sgr ?_) | fail)
    refine sw_call (q17Head_ok 0 (ro W) m.sector m.run m.number v bs hv hb hl) ?_
    rintro _ _ (⟨hH2, _⟩ | ⟨_, a2, c2, rfl, rfl⟩)
    · exact absurd hH hH2
    have hsl := hdSec_len (seq := m.sector) (run := m.run) (began := m.number) hH.2.2.2
    have hSb := hdSec_byt (seq := m.sector) (run := m.run) (began := m.number) hb
    obtain ⟨g0, g1, g2, g3, g4⟩ := unh_hdSec hH hb
    obtain ⟨S, hS⟩ : ∃ S, S = hdSec m.sector m.run m.number bs := ⟨_, rfl⟩
    rw [← hS] at hsl hSb g0 g1 g2 g3 g4 ⊢
    have hrd1 : ∀ S' : List Int, RdB (pts b1 (.cells (S'.map (Value.int .u8) ++ t1).toArray 5 (0, 0))) (.slice (some ⟨b1, 0, none⟩) S'.length (S'.length + t1.length)) S' := fun S' => .row b1 0 _ _ (Nat.le_add_right _ _) reads_row
    refine sw_opn (k := 7006) (r := OwnB (.slice a2 512 c2) S) (α := Unit) (fun _ => RdB (OwnB (.slice a2 512 c2) S) (.slice a2 512 c2) S) (fun _ => OwnB (.slice a2 512 c2) S) (fun x hx => ⟨(), hx.rdb, hx⟩) fun _ hrd2 => ?_
    repeat' (first | with_reducible (first | refine go1 ?_ | refine sct ?_ | refine scf ?_ | refine sgr ?_) | ((with_reducible refine sw_call live_ok ?_); rintro _ _ ⟨rfl, rfl⟩) | ((with_reducible refine sw_call (bEqual_bx b1 7006 _ _ _ _ S (hrd1 S).bx hrd2.bx hSb) ?_); rintro _ _ ⟨rfl, rfl⟩) | (with_reducible refine sw_guard_split (fun h => ?_) (fun h => ?_)) <;> (try (exfalso; first | contradiction | omega | exact h Iff.rfl)) | (with_reducible refine sc_cond (fun h => ?_) (fun h => ?_)) <;> (try (exfalso; first | contradiction | omega | exact h Iff.rfl)) | (with_reducible refine sw_pick (fun h => ?_) (fun h => ?_)) <;> (try (exfalso; first | contradiction | omega | exact h Iff.rfl)) | fail)
    refine sw_call (wUnhead_bx b1 _ _ S (hrd1 S).bx hSb (by omega)) ?_
    rintro _ _ (⟨hE1, _⟩ | ⟨_, b8, t8, rfl, rfl⟩)
    · exact absurd g0 hE1
    rw [g1, g2, g3, g4]
    have hrd8 : RdB (pts b8 (.cells (bs.map (Value.int .u8) ++ t8).toArray 5 (0, 0))) (.slice (some ⟨b8, 0, none⟩) bs.length (bs.length + t8.length)) bs := .row b8 0 _ _ (Nat.le_add_right _ _) reads_row
    repeat' (first | with_reducible (first | refine go1 ?_ | refine sct ?_ | refine scf ?_ | refine sgr ?_) | ((with_reducible refine sw_call (bEqual_bx b8 0 _ _ _ _ bs hrd8.bx hv hb) ?_); rintro _ _ ⟨rfl, rfl⟩) | (with_reducible refine sw_guard_split (fun h => ?_) (fun h => ?_)) <;> (try (exfalso; first | contradiction | omega | exact h Iff.rfl)) | (with_reducible refine sc_cond (fun h => ?_) (fun h => ?_)) <;> (try (exfalso; first | contradiction | omega | exact h Iff.rfl)) | (with_reducible refine sw_pick (fun h => ?_) (fun h => ?_)) <;> (try (exfalso; first | contradiction | omega | exact h Iff.rfl)) | fail)
    refine sw_slice 256 S.length (S.length + t1.length) 256 (by omega) ⟨rfl, rfl, rfl, by split <;> omega⟩ ?_
    repeat' (first | with_reducible (first | refine go1 ?_ | refine sct ?_ | refine scf ?_ | refine sgr ?_) | fail)
    have htl : (rs.take 256).length = min rs.length 256 := by rw [List.length_take]; omega
    refine sw_copy ((rs.take 256).map (Value.int .u8)) ?_ (one_ints _ _) ⟨by rw [List.length_map]; omega, by rw [List.length_map, List.length_append, List.length_map]; omega⟩ ?_
    · intro w hw j x hj
      refine hur.sat (k := 0) hw j x ?_
      rw [List.getElem?_map, List.getElem?_take] at hj
      rw [List.getElem?_map]
      split at hj
      · exact hj
      · cases hj
    obtain ⟨S', hS'⟩ : ∃ S', S' = S.take 256 ++ rs.take 256 ++ S.drop (256 + (rs.take 256).length) := ⟨_, rfl⟩
    have hS'l : S.length = S'.length := by rw [hS', List.length_append, List.length_append, List.length_take, List.length_drop]; omega
    have hS'b : Byt S' := by
      rw [hS']
      have q1 : Byt (S.take 256) := fun x hx => hSb x (List.mem_of_mem_take hx)
      have q2 : Byt (rs.take 256) := fun x hx => hrb x (List.mem_of_mem_take hx)
      exact (q1.app q2).app fun x hx => hSb x (List.mem_of_mem_drop hx)
    have hcs : (S.map (Value.int .u8) ++ t1).take 256 ++ (rs.take 256).map (Value.int .u8) ++ (S.map (Value.int .u8) ++ t1).drop (256 + ((rs.take 256).map (Value.int .u8)).length) = S'.map (Value.int .u8) ++ t1 := by
      rw [hS', List.take_append_of_le_length (by rw [List.length_map]; omega), List.drop_append_of_le_length (by rw [List.length_map, List.length_map]; omega), List.length_map]
      simp only [List.map_append, List.map_take, List.map_drop, List.append_assoc]
    rw [hcs, hS'l]
    repeat' (first | with_reducible (first | refine go1 ?_ | refine sct ?_ | refine scf ?_ | refine sgr ?_) | fail)
    -- b1: the key; S': the bytes; (hrd1 S').bx: that they can be read; hS'b: their range; (by omega): their length
    refine sw_call (wUnhead_bx b1 _ _ S' ((hrd1 S').bx) hS'b (by omega)) ?_
    rintro _ _ (⟨hE1, rfl, rfl⟩ | ⟨hE1, b8, t8, rfl, rfl⟩)
    · repeat' (first | with_reducible (first | refine go1 ?_ | refine sct ?_ | refine scf ?_ | refine sgr ?_) | fail)
      refine sw_call (q17Unhead_ok b1 _ _ S' ((hrd1 S').bx) hS'b (by omega)) ?_
      rintro _ _ (⟨_, rfl, rfl⟩ | ⟨hE2, _⟩)
      · repeat' (first | with_reducible (first | refine go1 ?_ | refine sct ?_ | refine scf ?_ | refine sgr ?_) | ((with_reducible refine sw_call (bEqual_nil2 0 bm (ro W) (pts bm (mobj m))) ?_); rintro _ _ ⟨rfl, rfl⟩) | (with_reducible refine sw_guard_split (fun h => ?_) (fun h => ?_)) <;> (try (exfalso; first | contradiction | omega | exact h Iff.rfl)) | (with_reducible refine sc_cond (fun h => ?_) (fun h => ?_)) <;> (try (exfalso; first | contradiction | omega | exact h Iff.rfl)) | (with_reducible refine sw_pick (fun h => ?_) (fun h => ?_)) <;> (try (exfalso; first | contradiction | omega | exact h Iff.rfl)) | fail)
        refine sq_ret1 Try.results3 ?_
        refine ⟨_, ⟨by simp, F, rfl⟩, ?_⟩
        repeat' (first | with_reducible exact Ent.refl _ | with_reducible refine Ent.take_eq ?_ ?_ | rfl | with_reducible refine Ent.oR ?_ | with_reducible refine Ent.trans (Ent.drop _ _) ?_)
      · exact absurd hE2 hE1
    · repeat' (first | with_reducible (first | refine go1 ?_ | refine sct ?_ | refine scf ?_ | refine sgr ?_) | fail)
      refine sw_call (q17Unhead_ok b1 _ _ S' ((hrd1 S').bx) hS'b (by omega)) ?_
      rintro _ _ (⟨hE2, _⟩ | ⟨_, a9, c9, rfl, hrd9, rfl⟩)
      · exact absurd hE1 hE2
      · have hrd8 : RdB (pts b8 (.cells ((uhData S').map (Value.int .u8) ++ t8).toArray 5 (0, 0))) (.slice (some ⟨b8, 0, none⟩) (uhData S').length ((uhData S').length + t8.length)) (uhData S') := .row b8 0 _ _ (Nat.le_add_right _ _) reads_row
        have hdb : Byt (uhData S') := (hS'b).sub _ _
        repeat' (first | with_reducible (first | refine go1 ?_ | refine sct ?_ | refine scf ?_ | refine sgr ?_) | ((with_reducible refine sw_call (bEqual_bx b8 b1 _ _ _ _ (uhData S') hrd8.bx hrd9.bx hdb) ?_); rintro _ _ ⟨rfl, rfl⟩) | (with_reducible refine sw_guard_split (fun h => ?_) (fun h => ?_)) <;> (try (exfalso; first | contradiction | omega | exact h Iff.rfl)) | (with_reducible refine sc_cond (fun h => ?_) (fun h => ?_)) <;> (try (exfalso; first | contradiction | omega | exact h Iff.rfl)) | (with_reducible refine sw_pick (fun h => ?_) (fun h => ?_)) <;> (try (exfalso; first | contradiction | omega | exact h Iff.rfl)) | fail)
        refine sq_ret1 Try.results3 ?_
        refine ⟨_, ⟨by simp, F, rfl⟩, ?_⟩
        repeat' (first | with_reducible exact Ent.refl _ | with_reducible refine Ent.take_eq ?_ ?_ | rfl | with_reducible refine Ent.oR ?_ | with_reducible refine Ent.trans (Ent.drop _ _) ?_)
theorem heads17_walk {W : World} {u v : Value} {bs rs : List Int} {s o n q : Int} (hv : RdBx (ro W) v bs) (hb : Byt bs) (hl : bs.length ≤ 140737488355328) (hu : RdBx (ro W) u rs) (hrb : Byt rs) (hrl : rs.length ≤ 140737488355328) :
    Calls Try.prog 3 #[.agg #[.int .i64 s, .int .i64 o, .int .i64 n, .int .i64 q], v, u] W fun e W' => e = .returned (.bool true) ∧ Below W.heap.size W W' := call_of_spec W (l17Heads_ok W ⟨s, o, n, q⟩ v u bs rs hv hb hl hu hrb hrl)
end Go.Gsl
