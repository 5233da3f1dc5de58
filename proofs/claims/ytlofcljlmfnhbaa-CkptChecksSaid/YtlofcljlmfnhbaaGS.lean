/- Pairs as values. -/
import Derived.Test.YtlofcljlmfnhbaaGP
import Derived.Test.YtlofcljlmfnhbaaGE
import Derived.Test.YtlofcljlmfnhbaaGW
namespace Go.Gsl
set_option linter.unusedVariables false
open Go.Proofs

abbrev Sp.cs (x : Sp) : List Value := [.string (strB x.key), .string (strB x.val), .int .i64 x.ts]
def spC (l : List Sp) : List Value := l.flatMap Sp.cs
theorem spC_nil : spC [] = [] := rfl
theorem spC_cons (x : Sp) (l : List Sp) : spC (x :: l) = x.cs ++ spC l := rfl
theorem spC_app (l m : List Sp) : spC (l ++ m) = spC l ++ spC m := by unfold spC; simp
theorem spC_len : ∀ l : List Sp, (spC l).length = l.length * 3
  | [] => rfl
  | x :: l => by rw [spC_cons, List.length_append, spC_len l, List.length_cons]; simp only [List.length_cons, List.length_nil]; omega
theorem spC_drop : ∀ (l : List Sp) (k : Nat), (spC l).drop (k * 3) = spC (l.drop k)
  | l, 0 => by simp
  | [], k + 1 => by simp [spC]
  | x :: l, k + 1 => by
    rw [List.drop_succ_cons, ← spC_drop l k, spC_cons, show (k + 1) * 3 = 3 + k * 3 by omega, ← List.drop_drop]
    rfl
theorem spC_take : ∀ (l : List Sp) (k : Nat), (spC l).take (k * 3) = spC (l.take k)
  | l, 0 => by simp [spC]
  | [], k + 1 => by simp [spC]
  | x :: l, k + 1 => by
    rw [List.take_succ_cons, spC_cons, spC_cons, ← spC_take l k, show (k + 1) * 3 = 3 + k * 3 by omega, List.take_add]
    rfl
theorem spC_elem {l : List Sp} {i : Nat} (h : i < l.length) : ((spC l).drop (i * 3)).take 3 = l[i].cs := by
  rw [spC_drop, List.drop_eq_getElem_cons h, spC_cons]
  rfl
theorem spC_key {l : List Sp} {i : Nat} (h : i < l.length) : (spC l)[i * 3]? = some (.string (strB l[i].key)) := by
  have h1 : ((spC l).drop (i * 3))[0]? = some (.string (strB l[i].key)) := by rw [spC_drop, List.drop_eq_getElem_cons h, spC_cons]; rfl
  rwa [List.getElem?_drop, Nat.add_zero] at h1
theorem spC_one : ∀ {l : List Sp}, ∀ v ∈ spC l, v.oneCell' = true := by
  intro l v hv
  obtain ⟨x, _, hx⟩ := List.mem_flatMap.1 hv
  rcases List.mem_cons.1 hx with rfl | hx
  · rfl
  rcases List.mem_cons.1 hx with rfl | hx
  · rfl
  rcases List.mem_cons.1 hx with rfl | hx
  · rfl
  · cases hx
/-- a slice of pairs, read through a resource -/
def RdS (r : HProp) (v : Value) (l : List Sp) : Prop := ∃ a c, v = .slice a l.length c ∧ l.length ≤ c ∧ (0 < l.length → ∃ b o, a = some ⟨b, o, none⟩) ∧ Reads r a (spC l)
theorem RdS.one {r : HProp} {v : Value} {l : List Sp} (h : RdS r v l) : One v := by
  obtain ⟨a, c, rfl, _⟩ := h
  exact ⟨rfl⟩
theorem RdS.nil (r : HProp) : RdS r (.slice none 0 0) [] := ⟨none, 0, rfl, Nat.le_refl _, fun h => by simp at h, reads_nil _ _⟩
theorem RdS.own {b c : Nat} {l : List Sp} {t : List Value} {ty : TypeId} {fr : Nat × Nat} (h : l.length ≤ c) : RdS (pts b (.cells (spC l ++ t).toArray ty fr)) (.slice (some ⟨b, 0, none⟩) l.length c) l :=
  ⟨_, c, rfl, h, fun _ => ⟨b, 0, rfl⟩, reads_pts fun j v hj => by rw [Nat.zero_add, List.getElem?_append_left (List.getElem?_eq_some_iff.1 hj).1]; exact hj⟩
theorem RdS.own0 {b c : Nat} {l : List Sp} {ty : TypeId} {fr : Nat × Nat} (h : l.length ≤ c) : RdS (pts b (.cells (spC l).toArray ty fr)) (.slice (some ⟨b, 0, none⟩) l.length c) l := by
  have := RdS.own (b := b) (c := c) (l := l) (t := []) (ty := ty) (fr := fr) h
  rwa [List.append_nil] at this
/-- a part of it -/
theorem Reads.sub3 {r : HProp} {b o : Nat} {l : List Sp} (h : Reads r (some ⟨b, o, none⟩) (spC l)) (K N : Nat) : Reads r (some ⟨b, o + K * 3, none⟩) (spC ((l.drop K).take N)) := by
  intro hp w hr hf j v hj
  rw [← spC_take, ← spC_drop, List.getElem?_take] at hj
  split at hj
  · rw [List.getElem?_drop] at hj
    obtain ⟨ad, h1, h2⟩ := h hp w hr hf _ v hj
    cases h1
    rw [add_plain] at h2
    exact ⟨_, rfl, by rw [add_plain, show o + K * 3 + j = o + (K * 3 + j) by omega]; exact h2⟩
  · cases hj
/-- pairs whose texts are bytes -/
def SpsB (l : List Sp) : Prop := ∀ x ∈ l, Byt x.key ∧ Byt x.val
theorem rcFirst3_ok (b : Nat) (e1 e2 e3 : Int) : Spec Try.prog 114 [.slice (some ⟨b, 0, none⟩) 3 3] [b] [pts b (.cells [.int .i64 e1, .int .i64 e2, .int .i64 e3].toArray 29 (0, 0))]
    fun F w Rs' => w = .int .i64 (firstE [e1, e2, e3]) ∧ Rs' = (b, pts b (.cells [.int .i64 e1, .int .i64 e2, .int .i64 e3].toArray 29 (0, 0))) :: F := rcFirst_ok b [e1, e2, e3] (by simp)
end Go.Gsl

namespace Go.Gsl
set_option linter.unusedVariables false
open Go.Proofs

/-- a chunk's value -/
abbrev ckV (n : Int) (v : Value) (y : Bool) : List Value := [.int .i64 n, v, .bool y]

set_option maxHeartbeats 2000000 in
theorem rcCheckChunk_ok (k : Nat) (r : HProp) (v : Value) (c : Ck) (hv : RdS r v c.l) (hb : SpsB c.l) (hl : c.l.length ≤ 4611686018427387904) : Spec Try.prog 111 [.agg (ckV c.num v c.last).toArray] [k] [r] fun F w Rs' => w = .int .i64 c.chk ∧ Rs' = (k, r) :: F := by
  obtain ⟨a, cp, rfl, hc, hsome, hr⟩ := hv
  refine spec_of Try.func111 rfl Try.ntmps111 rfl ?_
  intro w0 F
  repeat' (first | with_reducible (first | refine go1 ?_ | refine sct ?_ | refine scf ?_ | refine sgr ?_) | fail)
  refine sw_box fun b1 => ?_
  unfold Ck.chk
  repeat' (first | with_reducible (first | refine go1 ?_ | refine sct ?_ | refine scf ?_ | refine sgr ?_) | with_reducible refine sw_guard_skip_u ?_ | (with_reducible refine sc_cond (fun h => ?_) (fun h => ?_)) <;> (try (exfalso; first | contradiction | omega | exact h Iff.rfl)) | (with_reducible refine sw_guard_split (fun h => ?_) (fun h => ?_)) <;> (try (exfalso; first | contradiction | omega | exact h Iff.rfl)) | (with_reducible refine sw_pick (fun h => ?_) (fun h => ?_)) <;> (try (exfalso; first | contradiction | omega | exact h Iff.rfl)) | fail)
  iterate 3
    · refine sq_ret1 Try.results111 ?_
      refine ⟨_, ⟨?_, rfl⟩, Ent.drop _ _⟩
      rw [if_pos (by omega)]
  · rw [if_neg (by omega)]
    obtain ⟨nu, la, l⟩ := c
    simp only at *
    refine sc_loop (α := { i : Nat // i ≤ l.length ∧ chksL none l = chksAt l i }) (fun i => [(1, .pointer (some ⟨b1, 0, none⟩)), (21, .slice a l.length cp), (22, .int .i64 (l.length : Int)), (23, .int .i64 (i.1 : Int))])
      (fun _ => (b1, pts b1 (.cells (ckV nu (.slice a l.length cp) la).toArray 28 (0, 0))) :: (k, r) :: F) (fun i => l.length - i.1) ⟨0, Nat.zero_le _, rfl⟩ ?_ ?_ ?_
    · repeat' (first | exact says_nil | refine says_cons rfl ?_ | refine says_cons (by simp) ?_)
    · exact Ent.refl _
    rintro ⟨i, hi, hf⟩ e
    (try simp only at hi hf)
    simp only [List.cons_append, List.nil_append]
    repeat' (first | with_reducible refine sw_in (by omega) ?_ | with_reducible (first | refine go1 ?_ | refine sct ?_ | refine scf ?_ | refine sgr ?_) | (with_reducible refine sc_cond (fun h => ?_) (fun h => ?_)) <;> (try (exfalso; first | contradiction | omega | exact h Iff.rfl)) | fail)
    · have hi2 : i < l.length := by omega
      obtain ⟨b, o, rfl⟩ := hsome (by omega)
      have hstep := chksAt_step hi2
      have hbx := hb l[i] (List.getElem_mem hi2)
      have hel := spC_elem hi2
      have hp0 : i = 0 → prevK l i = none := fun h => by unfold prevK; rw [if_pos h]
      obtain ⟨y, hp1⟩ : ∃ y, 0 < i → prevK l i = some y ∧ Byt y ∧ (spC l)[(i - 1) * 3]? = some (.string (strB y)) := by
        rcases Nat.eq_zero_or_pos i with h | h
        · exact ⟨[], fun h' => by omega⟩
        have h7 : i - 1 < l.length := by omega
        refine ⟨l[i - 1].key, fun _ => ⟨?_, (hb _ (List.getElem_mem h7)).1, spC_key h7⟩⟩
        unfold prevK
        rw [if_neg (by omega), List.getElem?_eq_getElem h7]
        rfl
      have hg := hf.trans hstep
      clear hstep
      generalize prevK l i = pk at hp0 hp1 hg
      generalize l[i] = x at hbx hel hg
      refine sw_indexN i ⟨rfl, hi2⟩ ?_
      refine sw_load_aggR k (i * 3) x.cs hr rfl hel rfl ?_
      repeat' (first | with_reducible (first | refine go1 ?_ | refine sct ?_ | refine scf ?_ | refine sgr ?_) | fail)
      refine sw_alloc fun b2 => ?_
      repeat' (first | with_reducible (first | refine go1 ?_ | refine sct ?_ | refine scf ?_ | refine sgr ?_) | fail)
      refine sw_store_agg ?_
      repeat' (first | with_reducible (first | refine go1 ?_ | refine sct ?_ | refine scf ?_ | refine sgr ?_) | fail)
      refine sc_lin ([(b2, pts b2 (.cells x.cs.toArray 50 (0, 0))), (b1, pts b1 (.cells (ckV nu (.slice (some ⟨b, o, none⟩) l.length cp) la).toArray 28 (0, 0))), (k, r)]) (llp 0 (llp 1 (llp 3 (llp 4 (llp 6 (llp 7 (lle 2 (lle 5 (lle 8 (llp 9 (llp 10 (llp 11 (llp 12 (llp 13 (llp 14 (llp 15 (llp 16 (llp 17 (llp 18 (llp 19 (llp 20 (llp 21 (llp 22 (llp 23 (llp 24 (lle 25 (lle 26 (lle 27 (llp 28 ll0))))))))))))))))))))))))))))) (by kernel_rfl) rfl (by kernel_rfl) ?_
      all_goals (iterate 6 refine go1l ?_)
      all_goals refine sl_eff ?_
      all_goals (repeat' (first | with_reducible (first | refine go1 ?_ | refine sct ?_ | refine scf ?_ | refine sgr ?_) | ((with_reducible refine sw_callf (rcKey_ok x.key hbx.1) ?_); rintro _ _ ⟨rfl, rfl⟩) | ((with_reducible refine sw_callf (rcValue_ok x.val) ?_); rintro _ _ ⟨rfl, rfl⟩) | ((with_reducible refine sw_callf (rcStamp_ok x.ts 1) ?_); rintro _ _ ⟨rfl, rfl⟩) | ((with_reducible refine sw_callf (rcField_ok _) ?_); rintro _ _ ⟨rfl, rfl⟩) | with_reducible refine sw_buildSlice [.int .i64 (if x.key.length = 0 ∨ 64 < x.key.length then 30 else 0), .int .i64 (if 256 < x.val.length then 31 else 0), .int .i64 (if _ then 0 else 32)] (by omega) rfl fun b3 => ?_ | ((with_reducible refine sw_callf (rcFirst3_ok _ _ _ _) ?_); rintro _ _ ⟨rfl, rfl⟩) | with_reducible refine sl_back ?_ | fail))
      all_goals refine sl_eff ?_
      all_goals (repeat' (first | with_reducible (first | refine go1 ?_ | refine sct ?_ | refine scf ?_ | refine sgr ?_) | ((with_reducible refine sw_callf (rcKey_ok x.key hbx.1) ?_); rintro _ _ ⟨rfl, rfl⟩) | ((with_reducible refine sw_callf (rcValue_ok x.val) ?_); rintro _ _ ⟨rfl, rfl⟩) | ((with_reducible refine sw_callf (rcStamp_ok x.ts 1) ?_); rintro _ _ ⟨rfl, rfl⟩) | ((with_reducible refine sw_callf (rcField_ok _) ?_); rintro _ _ ⟨rfl, rfl⟩) | with_reducible refine sw_buildSlice [.int .i64 (if x.key.length = 0 ∨ 64 < x.key.length then 30 else 0), .int .i64 (if 256 < x.val.length then 31 else 0), .int .i64 (if _ then 0 else 32)] (by omega) rfl fun b3 => ?_ | ((with_reducible refine sw_callf (rcFirst3_ok _ _ _ _) ?_); rintro _ _ ⟨rfl, rfl⟩) | with_reducible refine sl_back ?_ | fail))
      all_goals refine sl_eff ?_
      all_goals (repeat' (first | with_reducible (first | refine go1 ?_ | refine sct ?_ | refine scf ?_ | refine sgr ?_) | ((with_reducible refine sw_callf (rcKey_ok x.key hbx.1) ?_); rintro _ _ ⟨rfl, rfl⟩) | ((with_reducible refine sw_callf (rcValue_ok x.val) ?_); rintro _ _ ⟨rfl, rfl⟩) | ((with_reducible refine sw_callf (rcStamp_ok x.ts 1) ?_); rintro _ _ ⟨rfl, rfl⟩) | ((with_reducible refine sw_callf (rcField_ok _) ?_); rintro _ _ ⟨rfl, rfl⟩) | with_reducible refine sw_buildSlice [.int .i64 (if x.key.length = 0 ∨ 64 < x.key.length then 30 else 0), .int .i64 (if 256 < x.val.length then 31 else 0), .int .i64 (if _ then 0 else 32)] (by omega) rfl fun b3 => ?_ | ((with_reducible refine sw_callf (rcFirst3_ok _ _ _ _) ?_); rintro _ _ ⟨rfl, rfl⟩) | with_reducible refine sl_back ?_ | fail))
      all_goals refine go1l ?_
      all_goals (first | refine go1l ?_ | ((refine sl_split 37 (fun h => ?_) (fun h => ?_)) <;> (try (exfalso; first | contradiction | omega | exact h Iff.rfl)) <;> refine go1l ?_))
      all_goals (first | refine go1l ?_ | ((refine sl_split 37 (fun h => ?_) (fun h => ?_)) <;> (try (exfalso; first | contradiction | omega | exact h Iff.rfl)) <;> refine go1l ?_))
      all_goals (first | refine go1l ?_ | ((refine sl_split 37 (fun h => ?_) (fun h => ?_)) <;> (try (exfalso; first | contradiction | omega | exact h Iff.rfl)) <;> refine go1l ?_))
      all_goals (first | refine go1l ?_ | ((refine sl_split 40 (fun h => ?_) (fun h => ?_)) <;> (try (exfalso; first | contradiction | omega | exact h Iff.rfl)) <;> refine go1l ?_))
      all_goals (first | refine go1l ?_ | ((refine sl_split 40 (fun h => ?_) (fun h => ?_)) <;> (try (exfalso; first | contradiction | omega | exact h Iff.rfl)) <;> refine go1l ?_))
      all_goals (first | refine go1l ?_ | ((refine sl_split 40 (fun h => ?_) (fun h => ?_)) <;> (try (exfalso; first | contradiction | omega | exact h Iff.rfl)) <;> refine go1l ?_))
      all_goals (first | refine go1l ?_ | ((refine sl_split 40 (fun h => ?_) (fun h => ?_)) <;> (try (exfalso; first | contradiction | omega | exact h Iff.rfl)) <;> refine go1l ?_))
      all_goals (first | refine go1l ?_ | ((refine sl_split 40 (fun h => ?_) (fun h => ?_)) <;> (try (exfalso; first | contradiction | omega | exact h Iff.rfl)) <;> refine go1l ?_))
      all_goals (first | (first | refine sl_in_g (by omega) ?_ | refine go1l ?_) | ((refine sl_split 40 (fun h => ?_) (fun h => ?_)) <;> (try (exfalso; first | contradiction | omega | exact h Iff.rfl)) <;> (first | refine sl_in_g (by omega) ?_ | refine go1l ?_)))
      all_goals (first | (first | refine sl_skip ?_ | refine sl_skip_u ?_ | refine sl_take_g (h := runop_indexN (i - 1) ⟨by omega, by omega⟩) ?_) | ((refine sl_split 40 (fun h => ?_) (fun h => ?_)) <;> (try (exfalso; first | contradiction | omega | exact h Iff.rfl)) <;> (first | refine sl_skip ?_ | refine sl_skip_u ?_ | refine sl_take_g (h := runop_indexN (i - 1) ⟨by omega, by omega⟩) ?_)))
      all_goals (first | refine go1l ?_ | ((refine sl_split 40 (fun h => ?_) (fun h => ?_)) <;> (try (exfalso; first | contradiction | omega | exact h Iff.rfl)) <;> refine go1l ?_))
      all_goals (first | (first | refine sl_skip ?_ | refine sl_skip_u ?_ | refine sl_take_g (h := runop_load_rdS k ((i - 1) * 3) _ hr (hp1 (by omega)).2.2 rfl) ?_) | ((refine sl_split 40 (fun h => ?_) (fun h => ?_)) <;> (try (exfalso; first | contradiction | omega | exact h Iff.rfl)) <;> (first | refine sl_skip ?_ | refine sl_skip_u ?_ | refine sl_take_g (h := runop_load_rdS k ((i - 1) * 3) _ hr (hp1 (by omega)).2.2 rfl) ?_)))
      all_goals (first | (first | refine sl_skip ?_ | refine sl_skip_u ?_ | refine sl_take_g (h := runop_sgtr hbx.1 (hp1 (by omega)).2.1) ?_) | ((refine sl_split 40 (fun h => ?_) (fun h => ?_)) <;> (try (exfalso; first | contradiction | omega | exact h Iff.rfl)) <;> (first | refine sl_skip ?_ | refine sl_skip_u ?_ | refine sl_take_g (h := runop_sgtr hbx.1 (hp1 (by omega)).2.1) ?_)))
      all_goals (first | refine go1l ?_ | ((refine sl_split 37 (fun h => ?_) (fun h => ?_)) <;> (try (exfalso; first | contradiction | omega | exact h Iff.rfl)) <;> refine go1l ?_))
      all_goals (first | refine go1l ?_ | ((refine sl_split 37 (fun h => ?_) (fun h => ?_)) <;> (try (exfalso; first | contradiction | omega | exact h Iff.rfl)) <;> refine go1l ?_))
      all_goals refine sl_eff ?_
      all_goals (repeat' (first | with_reducible (first | refine go1 ?_ | refine sct ?_ | refine scf ?_ | refine sgr ?_) | ((with_reducible refine sw_callf (rcKey_ok x.key hbx.1) ?_); rintro _ _ ⟨rfl, rfl⟩) | ((with_reducible refine sw_callf (rcValue_ok x.val) ?_); rintro _ _ ⟨rfl, rfl⟩) | ((with_reducible refine sw_callf (rcStamp_ok x.ts 1) ?_); rintro _ _ ⟨rfl, rfl⟩) | ((with_reducible refine sw_callf (rcField_ok _) ?_); rintro _ _ ⟨rfl, rfl⟩) | with_reducible refine sw_buildSlice [.int .i64 (if x.key.length = 0 ∨ 64 < x.key.length then 30 else 0), .int .i64 (if 256 < x.val.length then 31 else 0), .int .i64 (if _ then 0 else 32)] (by omega) rfl fun b3 => ?_ | ((with_reducible refine sw_callf (rcFirst3_ok _ _ _ _) ?_); rintro _ _ ⟨rfl, rfl⟩) | with_reducible refine sl_back ?_ | fail))
      all_goals refine sl_eff ?_
      all_goals (repeat' (first | with_reducible (first | refine go1 ?_ | refine sct ?_ | refine scf ?_ | refine sgr ?_) | ((with_reducible refine sw_callf (rcKey_ok x.key hbx.1) ?_); rintro _ _ ⟨rfl, rfl⟩) | ((with_reducible refine sw_callf (rcValue_ok x.val) ?_); rintro _ _ ⟨rfl, rfl⟩) | ((with_reducible refine sw_callf (rcStamp_ok x.ts 1) ?_); rintro _ _ ⟨rfl, rfl⟩) | ((with_reducible refine sw_callf (rcField_ok _) ?_); rintro _ _ ⟨rfl, rfl⟩) | with_reducible refine sw_buildSlice [.int .i64 (if x.key.length = 0 ∨ 64 < x.key.length then 30 else 0), .int .i64 (if 256 < x.val.length then 31 else 0), .int .i64 (if _ then 0 else 32)] (by omega) rfl fun b3 => ?_ | ((with_reducible refine sw_callf (rcFirst3_ok _ _ _ _) ?_); rintro _ _ ⟨rfl, rfl⟩) | with_reducible refine sl_back ?_ | fail))
      all_goals refine sl_eff ?_
      all_goals (repeat' (first | with_reducible (first | refine go1 ?_ | refine sct ?_ | refine scf ?_ | refine sgr ?_) | ((with_reducible refine sw_callf (rcKey_ok x.key hbx.1) ?_); rintro _ _ ⟨rfl, rfl⟩) | ((with_reducible refine sw_callf (rcValue_ok x.val) ?_); rintro _ _ ⟨rfl, rfl⟩) | ((with_reducible refine sw_callf (rcStamp_ok x.ts 1) ?_); rintro _ _ ⟨rfl, rfl⟩) | ((with_reducible refine sw_callf (rcField_ok _) ?_); rintro _ _ ⟨rfl, rfl⟩) | with_reducible refine sw_buildSlice [.int .i64 (if x.key.length = 0 ∨ 64 < x.key.length then 30 else 0), .int .i64 (if 256 < x.val.length then 31 else 0), .int .i64 (if _ then 0 else 32)] (by omega) rfl fun b3 => ?_ | ((with_reducible refine sw_callf (rcFirst3_ok _ _ _ _) ?_); rintro _ _ ⟨rfl, rfl⟩) | with_reducible refine sl_back ?_ | fail))
      all_goals refine go1l ?_
      all_goals refine sl_done ?_
      all_goals generalize hE : firstE _ = E
      all_goals
        have hE2 : E = x.chk (okK pk x.key) := by
          rw [← hE, ← Sp.chk_first]
          first
          | (simp [*]; done)
          | (have hz : i = 0 := by omega
             rw [hp0 hz]
             simp [okK, *]
             done)
          | (rw [(hp1 (by omega)).1]
             simp [okK, *]
             done)
        clear hE
        subst hE2
      all_goals repeat' (first | with_reducible refine sw_in (by omega) ?_ | with_reducible (first | refine go1 ?_ | refine sct ?_ | refine scf ?_ | refine sgr ?_) | (with_reducible refine sc_cond (fun h => ?_) (fun h => ?_)) <;> (try (exfalso; first | contradiction | omega | exact h Iff.rfl)) | fail)
      iterate 3
        · rw [if_pos h] at hg
          refine sq_ret1 Try.results111 ?_
          refine ⟨_, ⟨by rw [hg], rfl⟩, ?_⟩
          repeat' (first | with_reducible exact Ent.refl _ | with_reducible refine Ent.take_eq ?_ ?_ | rfl | with_reducible refine Ent.oR ?_ | with_reducible refine Ent.trans (oR.drop _ _ _) ?_ | with_reducible refine Ent.trans (Ent.drop _ _) ?_)
        · rw [if_neg h] at hg
          refine sq_round ⟨i + 1, by omega, hg⟩ ?_ ?_ ?_
          · show l.length - (i + 1) < l.length - i
            omega
          · repeat' (first | exact says_nil | refine says_cons rfl ?_ | refine says_cons (by simp) ?_)
          · repeat' (first | with_reducible exact Ent.refl _ | with_reducible refine Ent.take_eq ?_ ?_ | rfl | with_reducible refine Ent.oR ?_ | with_reducible refine Ent.trans (oR.drop _ _ _) ?_ | with_reducible refine Ent.trans (Ent.drop _ _) ?_)
    · have hz : i = l.length := by omega
      rw [hf, chksAt_end (by omega)]
      repeat' (first | with_reducible (first | refine go1 ?_ | refine sct ?_ | refine scf ?_ | refine sgr ?_) | fail)
      refine sq_ret1 Try.results111 ?_
      refine ⟨_, ⟨rfl, rfl⟩, Ent.drop _ _⟩
theorem rcCkCheck_ok (k : Nat) (r : HProp) (v : Value) (c : Ck) (hv : RdS r v c.l) (hb : SpsB c.l) (hl : c.l.length ≤ 4611686018427387904) : Spec Try.prog 109 [.agg (ckV c.num v c.last).toArray] [k] [r] fun F w Rs' => w = .int .i64 c.chk ∧ Rs' = (k, r) :: F := by
  refine spec_of Try.func109 rfl Try.ntmps109 rfl ?_
  intro w0 F
  have hone := hv.one
  repeat' (first | with_reducible (first | refine go1 ?_ | refine sct ?_ | refine scf ?_ | refine sgr ?_) | fail)
  refine sw_box fun b1 => ?_
  repeat' (first | with_reducible (first | refine go1 ?_ | refine sct ?_ | refine scf ?_ | refine sgr ?_) | ((with_reducible refine sw_call (rcCheckChunk_ok k r v c hv hb hl) ?_); rintro _ _ ⟨rfl, rfl⟩) | fail)
  refine sq_ret1 Try.results109 ?_
  exact ⟨_, ⟨rfl, rfl⟩, Ent.cons _ (Ent.drop _ _)⟩
instance : Meth Try.prog 106 "cresset/record.check" 109 := Meth.of Try.underlying106 (by kernel_rfl)
instance : Meth Try.prog 106 "cresset/record.put" 110 := Meth.of Try.underlying106 (by kernel_rfl)
end Go.Gsl

namespace Go.Gsl
set_option linter.unusedVariables false
open Go.Proofs

set_option maxHeartbeats 4000000 in
theorem rcCkPut_ok (k : Nat) (r : HProp) (v : Value) (c : Ck) (hv : RdS r v c.l) (hi : c.In) (hk : c.chk = 0) : Spec Try.prog 110 [.agg (ckV c.num v c.last).toArray, .slice none 0 0] [k] [r]
    fun F w Rs' => ∃ b t, w = .slice (some ⟨b, 0, none⟩) c.b.length (c.b.length + t.length) ∧ Rs' = (b, pts b (.cells (c.b.map (Value.int .u8) ++ t).toArray 5 (0, 0))) :: (k, r) :: F := by
  have hone := hv.one
  obtain ⟨a, cp, rfl, hc, hsome, hr⟩ := hv
  have hcl := Ck.b_len hk
  have hci := Ck.chk_ok hk
  obtain ⟨nu, la, l⟩ := c
  simp only at *
  have hil := intB_len nu
  have hwl := width_in nu
  have hil2 := intB_len (l.length : Int)
  have hwl2 := width_in (l.length : Int)
  have hfl := flagB_len la
  refine spec_of Try.func110 rfl Try.ntmps110 rfl ?_
  intro w0 F
  repeat' (first | with_reducible (first | refine go1 ?_ | refine sct ?_ | refine scf ?_ | refine sgr ?_) | fail)
  refine sw_box fun b1 => ?_
  repeat' (first | with_reducible (first | refine go1 ?_ | refine sct ?_ | refine scf ?_ | refine sgr ?_) | fail)
  refine sc_lin ([(b1, pts b1 (.cells (ckV nu (.slice a l.length cp) la).toArray 106 (0, 0)))]) (llp 0 (llp 1 (llp 2 (llp 3 (llp 5 (llp 6 (llp 7 (llp 9 (llp 10 (llp 11 (llp 12 (lle 4 (lle 8 (lle 13 (llp 14 ll0))))))))))))))) (by kernel_rfl) rfl (by kernel_rfl) ?_
  all_goals (iterate 11 refine go1l ?_)
  all_goals refine sl_eff ?_
  all_goals (repeat' (first | with_reducible (first | refine go1 ?_ | refine sct ?_ | refine scf ?_ | refine sgr ?_) | ((with_reducible refine sw_callf (cPutInt_ok k r (.slice none 0 0) [] nu .nil (by simp) (by omega)) ?_); rintro _ _ ⟨b2, t2, rfl, rfl⟩) | ((with_reducible refine sw_callf (cPutFlag_ok b2 (pts b2 (.cells ((intB nu).map (Value.int .u8) ++ t2).toArray 5 (0, 0))) _ (intB nu) la RdB.own (by omega)) ?_); rintro _ _ ⟨b3, t3, rfl, rfl⟩) | ((with_reducible refine sw_callf (cPutInt_ok b3 (pts b3 (.cells ((intB nu ++ flagB la).map (Value.int .u8) ++ t3).toArray 5 (0, 0))) _ (intB nu ++ flagB la) (l.length : Int) RdB.own (by simp; omega) (by omega)) ?_); rintro _ _ ⟨b4, t4, rfl, rfl⟩) | with_reducible refine sl_back ?_ | fail))
  all_goals refine sl_eff ?_
  all_goals (repeat' (first | with_reducible (first | refine go1 ?_ | refine sct ?_ | refine scf ?_ | refine sgr ?_) | ((with_reducible refine sw_callf (cPutInt_ok k r (.slice none 0 0) [] nu .nil (by simp) (by omega)) ?_); rintro _ _ ⟨b2, t2, rfl, rfl⟩) | ((with_reducible refine sw_callf (cPutFlag_ok b2 (pts b2 (.cells ((intB nu).map (Value.int .u8) ++ t2).toArray 5 (0, 0))) _ (intB nu) la RdB.own (by omega)) ?_); rintro _ _ ⟨b3, t3, rfl, rfl⟩) | ((with_reducible refine sw_callf (cPutInt_ok b3 (pts b3 (.cells ((intB nu ++ flagB la).map (Value.int .u8) ++ t3).toArray 5 (0, 0))) _ (intB nu ++ flagB la) (l.length : Int) RdB.own (by simp; omega) (by omega)) ?_); rintro _ _ ⟨b4, t4, rfl, rfl⟩) | with_reducible refine sl_back ?_ | fail))
  all_goals refine sl_eff ?_
  all_goals (repeat' (first | with_reducible (first | refine go1 ?_ | refine sct ?_ | refine scf ?_ | refine sgr ?_) | ((with_reducible refine sw_callf (cPutInt_ok k r (.slice none 0 0) [] nu .nil (by simp) (by omega)) ?_); rintro _ _ ⟨b2, t2, rfl, rfl⟩) | ((with_reducible refine sw_callf (cPutFlag_ok b2 (pts b2 (.cells ((intB nu).map (Value.int .u8) ++ t2).toArray 5 (0, 0))) _ (intB nu) la RdB.own (by omega)) ?_); rintro _ _ ⟨b3, t3, rfl, rfl⟩) | ((with_reducible refine sw_callf (cPutInt_ok b3 (pts b3 (.cells ((intB nu ++ flagB la).map (Value.int .u8) ++ t3).toArray 5 (0, 0))) _ (intB nu ++ flagB la) (l.length : Int) RdB.own (by simp; omega) (by omega)) ?_); rintro _ _ ⟨b4, t4, rfl, rfl⟩) | with_reducible refine sl_back ?_ | fail))
  all_goals refine go1l ?_
  all_goals refine sl_done ?_
  repeat' (first | with_reducible (first | refine go1 ?_ | refine sct ?_ | refine scf ?_ | refine sgr ?_) | fail)
  have hpl : (intB nu ++ flagB la ++ intB (l.length : Int)).length = width nu + 1 + width (l.length : Int) := by simp only [List.length_append]; omega
  have hcb : Ck.b ⟨nu, la, l⟩ = intB nu ++ flagB la ++ intB (l.length : Int) ++ spsB l := by unfold Ck.b; simp only [List.append_assoc]
  rw [hcb] at hcl ⊢
  generalize intB nu ++ flagB la ++ intB (l.length : Int) = pre at *
  refine sc_loop (α := { x : Nat × Nat × List Value // x.1 ≤ l.length }) (fun x => [(1, .slice (some ⟨x.1.2.1, 0, none⟩) (pre ++ spsB (l.take x.1.1)).length ((pre ++ spsB (l.take x.1.1)).length + x.1.2.2.length)), (23, .slice a l.length cp), (24, .int .i64 (l.length : Int)), (25, .int .i64 (x.1.1 : Int))])
    (fun x => (x.1.2.1, pts x.1.2.1 (.cells ((pre ++ spsB (l.take x.1.1)).map (Value.int .u8) ++ x.1.2.2).toArray 5 (0, 0))) :: (k, r) :: F) (fun x => l.length - x.1.1) ⟨(0, b4, t4), Nat.zero_le _⟩ ?_ ?_ ?_
  · have : pre ++ spsB (l.take 0) = pre := by simp [spsB]
    rw [this]
    repeat' (first | exact says_nil | refine says_cons rfl ?_ | refine says_cons (by simp) ?_)
  · have : pre ++ spsB (l.take 0) = pre := by simp [spsB]
    show Ent _ ((b4, pts b4 (.cells ((pre ++ spsB (l.take 0)).map (Value.int .u8) ++ t4).toArray 5 (0, 0))) :: (k, r) :: F)
    rw [this]
    repeat' (first | with_reducible exact Ent.refl _ | with_reducible refine Ent.take_eq ?_ ?_ | rfl | with_reducible refine Ent.oR ?_ | with_reducible refine Ent.trans (oR.drop _ _ _) ?_ | with_reducible refine Ent.trans (Ent.drop _ _) ?_)
  rintro ⟨⟨i, b5, t5⟩, hi2⟩ e
  (try simp only at hi2)
  simp only [List.cons_append, List.nil_append]
  repeat' (first | with_reducible refine sw_in (by omega) ?_ | with_reducible (first | refine go1 ?_ | refine sct ?_ | refine scf ?_ | refine sgr ?_) | (with_reducible refine sc_cond (fun h => ?_) (fun h => ?_)) <;> (try (exfalso; first | contradiction | omega | exact h Iff.rfl)) | fail)
  · have hi3 : i < l.length := by omega
    obtain ⟨b, o, rfl⟩ := hsome (by omega)
    have hel := spC_elem hi3
    have hin := hi.2 l[i] (List.getElem_mem hi3)
    have hok := hci.2.2 l[i] (List.getElem_mem hi3)
    have hxl := Sp.b_len hok
    have hsn : spsB (l.take (i + 1)) = spsB (l.take i) ++ l[i].b := by rw [List.take_add_one, List.getElem?_eq_getElem hi3, Option.toList_some, spsB_snoc]
    have hle : (spsB (l.take i)).length ≤ 331 * (l.take i).length := spsB_len fun y hy => hci.2.2 y (List.mem_of_mem_take hy)
    rw [List.length_take] at hle
    have hll : l.length ≤ 16 := hci.2.1
    generalize hQ : spsB (l.take (i + 1)) = Q at hsn
    generalize hP : pre ++ spsB (l.take i) = pp at *
    have hpp : pp.length ≤ 60000 := by rw [← hP, List.length_append]; omega
    generalize l[i] = x at *
    refine sw_indexN i ⟨rfl, hi3⟩ ?_
    refine sw_load_aggR k (i * 3) x.cs hr rfl hel rfl ?_
    refine sw_alloc fun b6 => ?_
    repeat' (first | with_reducible (first | refine go1 ?_ | refine sct ?_ | refine scf ?_ | refine sgr ?_) | fail)
    refine sw_store_agg ?_
    repeat' (first | with_reducible (first | refine go1 ?_ | refine sct ?_ | refine scf ?_ | refine sgr ?_) | fail)
    obtain ⟨hi5, hi6, hi7, _, _⟩ := hin
    unfold I64 at hi7
    have hb7 : (pp ++ txtB x.key).length ≤ 35184372088832 := by
      have h1 := txtB_len x.key
      have h2 := width_in (x.key.length : Int)
      rw [List.length_append]
      omega
    have hb8 : (pp ++ txtB x.key ++ txtB x.val).length ≤ 35184372088832 := by
      have h1 := txtB_len x.key
      have h2 := width_in (x.key.length : Int)
      have h3 := txtB_len x.val
      have h4 := width_in (x.val.length : Int)
      rw [List.length_append, List.length_append]
      omega
    refine sc_lin ([(b6, pts b6 (.cells x.cs.toArray 50 (0, 0)))]) (llp 0 (llp 1 (llp 2 (llp 4 (llp 5 (llp 7 (llp 8 (lle 3 (lle 6 (lle 9 (llp 10 ll0))))))))))) (by kernel_rfl) rfl (by kernel_rfl) ?_
    all_goals (iterate 7 refine go1l ?_)
    all_goals refine sl_eff ?_
    all_goals (repeat' (first | with_reducible (first | refine go1 ?_ | refine sct ?_ | refine scf ?_ | refine sgr ?_) | ((with_reducible refine sw_callf (cPutText_ok b5 (pts b5 (.cells (pp.map (Value.int .u8) ++ t5).toArray 5 (0, 0))) _ pp x.key RdB.own (by omega) (by omega) hi5) ?_); rintro _ _ ⟨b7, t7, rfl, rfl⟩) | ((with_reducible refine sw_callf (cPutText_ok b7 (pts b7 (.cells ((pp ++ txtB x.key).map (Value.int .u8) ++ t7).toArray 5 (0, 0))) _ (pp ++ txtB x.key) x.val RdB.own hb7 (by omega) hi6) ?_); rintro _ _ ⟨b8, t8, rfl, rfl⟩) | ((with_reducible refine sw_callf (cPutInt_ok b8 (pts b8 (.cells ((pp ++ txtB x.key ++ txtB x.val).map (Value.int .u8) ++ t8).toArray 5 (0, 0))) _ (pp ++ txtB x.key ++ txtB x.val) x.ts RdB.own (by omega) hi7) ?_); rintro _ _ ⟨b9, t9, rfl, rfl⟩) | with_reducible refine sl_back ?_ | fail))
    all_goals refine sl_eff ?_
    all_goals (repeat' (first | with_reducible (first | refine go1 ?_ | refine sct ?_ | refine scf ?_ | refine sgr ?_) | ((with_reducible refine sw_callf (cPutText_ok b5 (pts b5 (.cells (pp.map (Value.int .u8) ++ t5).toArray 5 (0, 0))) _ pp x.key RdB.own (by omega) (by omega) hi5) ?_); rintro _ _ ⟨b7, t7, rfl, rfl⟩) | ((with_reducible refine sw_callf (cPutText_ok b7 (pts b7 (.cells ((pp ++ txtB x.key).map (Value.int .u8) ++ t7).toArray 5 (0, 0))) _ (pp ++ txtB x.key) x.val RdB.own hb7 (by omega) hi6) ?_); rintro _ _ ⟨b8, t8, rfl, rfl⟩) | ((with_reducible refine sw_callf (cPutInt_ok b8 (pts b8 (.cells ((pp ++ txtB x.key ++ txtB x.val).map (Value.int .u8) ++ t8).toArray 5 (0, 0))) _ (pp ++ txtB x.key ++ txtB x.val) x.ts RdB.own (by omega) hi7) ?_); rintro _ _ ⟨b9, t9, rfl, rfl⟩) | with_reducible refine sl_back ?_ | fail))
    all_goals refine sl_eff ?_
    all_goals (repeat' (first | with_reducible (first | refine go1 ?_ | refine sct ?_ | refine scf ?_ | refine sgr ?_) | ((with_reducible refine sw_callf (cPutText_ok b5 (pts b5 (.cells (pp.map (Value.int .u8) ++ t5).toArray 5 (0, 0))) _ pp x.key RdB.own (by omega) (by omega) hi5) ?_); rintro _ _ ⟨b7, t7, rfl, rfl⟩) | ((with_reducible refine sw_callf (cPutText_ok b7 (pts b7 (.cells ((pp ++ txtB x.key).map (Value.int .u8) ++ t7).toArray 5 (0, 0))) _ (pp ++ txtB x.key) x.val RdB.own hb7 (by omega) hi6) ?_); rintro _ _ ⟨b8, t8, rfl, rfl⟩) | ((with_reducible refine sw_callf (cPutInt_ok b8 (pts b8 (.cells ((pp ++ txtB x.key ++ txtB x.val).map (Value.int .u8) ++ t8).toArray 5 (0, 0))) _ (pp ++ txtB x.key ++ txtB x.val) x.ts RdB.own (by omega) hi7) ?_); rintro _ _ ⟨b9, t9, rfl, rfl⟩) | with_reducible refine sl_back ?_ | fail))
    all_goals refine go1l ?_
    all_goals refine sl_done ?_
    have hfin : pp ++ txtB x.key ++ txtB x.val ++ intB x.ts = pre ++ spsB (l.take (i + 1)) := by
      rw [hQ, hsn, ← hP]
      unfold Sp.b
      simp only [List.append_assoc]
    rw [hfin]
    repeat' (first | with_reducible refine sw_in (by omega) ?_ | with_reducible (first | refine go1 ?_ | refine sct ?_ | refine scf ?_ | refine sgr ?_) | fail)
    refine sq_round ⟨(i + 1, b9, t9), by simp only; omega⟩ ?_ ?_ ?_
    · show l.length - (i + 1) < l.length - i
      omega
    · repeat' (first | exact says_nil | refine says_cons rfl ?_ | refine says_cons (by simp) ?_)
    · show Ent _ ((b9, pts b9 (.cells ((pre ++ spsB (l.take (i + 1))).map (Value.int .u8) ++ t9).toArray 5 (0, 0))) :: (k, r) :: F)
      repeat' (first | with_reducible exact Ent.refl _ | with_reducible refine Ent.take_eq ?_ ?_ | rfl | with_reducible refine Ent.oR ?_ | with_reducible refine Ent.trans (oR.drop _ _ _) ?_ | with_reducible refine Ent.trans (Ent.drop _ _) ?_)
  · have hz : i = l.length := by omega
    subst hz
    have hz : l.take l.length = l := List.take_length
    rw [hz]
    repeat' (first | with_reducible (first | refine go1 ?_ | refine sct ?_ | refine scf ?_ | refine sgr ?_) | fail)
    refine sq_ret1 Try.results110 ?_
    exact ⟨_, ⟨b5, t5, rfl, rfl⟩, Ent.refl _⟩

theorem rcCkBytes_ok (k : Nat) (r : HProp) (v : Value) (c : Ck) (hv : RdS r v c.l) (hi : c.In) (hl : c.l.length ≤ 4611686018427387904) : Spec Try.prog 55 [.iface 106 (.agg (ckV c.num v c.last).toArray)] [k] [r]
    fun F w Rs' => (c.chk ≠ 0 ∧ w = .tuple #[.slice none 0 0, .int .i64 c.chk] ∧ Rs' = (k, r) :: F) ∨ (c.chk = 0 ∧ ∃ b t, w = .tuple #[.slice (some ⟨b, 0, none⟩) c.b.length (c.b.length + t.length), .int .i64 0] ∧ Rs' = (b, pts b (.cells (c.b.map (Value.int .u8) ++ t).toArray 5 (0, 0))) :: (k, r) :: F) := by
  have hone := hv.one
  have hb : SpsB c.l := fun x hx => ⟨(hi.2 x hx).1, (hi.2 x hx).2.1⟩
  refine spec_of Try.func55 rfl Try.ntmps55 rfl ?_
  intro w0 F
  repeat' (first | with_reducible (first | refine go1 ?_ | refine sct ?_ | refine scf ?_ | refine sgr ?_) | ((with_reducible refine sw_invoke (rcCkCheck_ok k r v c hv hb hl) ?_); rintro _ _ ⟨rfl, rfl⟩) | (with_reducible refine sc_cond (fun h => ?_) (fun h => ?_)) <;> (try (exfalso; first | contradiction | omega | exact h Iff.rfl)) | fail)
  · refine sq_ret2 Try.results55 ?_
    exact ⟨_, .inl ⟨h, rfl, rfl⟩, Ent.refl _⟩
  · refine sw_invoke (rcCkPut_ok k r v c hv hi (by omega)) ?_
    rintro _ _ ⟨b, t, rfl, rfl⟩
    repeat' (first | with_reducible (first | refine go1 ?_ | refine sct ?_ | refine scf ?_ | refine sgr ?_) | fail)
    refine sq_ret2 Try.results55 ?_
    exact ⟨_, .inr ⟨by omega, b, t, rfl, rfl⟩, Ent.refl _⟩

theorem rcChunk_ok (k : Nat) (r : HProp) (v : Value) (c : Ck) (hv : RdS r v c.l) (hi : c.In) (hl : c.l.length ≤ 4611686018427387904) : Spec Try.prog 33 [.agg (ckV c.num v c.last).toArray] [k] [r]
    fun F w Rs' => (c.chk ≠ 0 ∧ w = .tuple #[.slice none 0 0, .int .i64 c.chk] ∧ Rs' = (k, r) :: F) ∨ (c.chk = 0 ∧ ∃ b t, w = .tuple #[.slice (some ⟨b, 0, none⟩) c.b.length (c.b.length + t.length), .int .i64 0] ∧ Rs' = (b, pts b (.cells (c.b.map (Value.int .u8) ++ t).toArray 5 (0, 0))) :: (k, r) :: F) := by
  have hone := hv.one
  refine spec_of Try.func33 rfl Try.ntmps33 rfl ?_
  intro w0 F
  repeat' (first | with_reducible (first | refine go1 ?_ | refine sct ?_ | refine scf ?_ | refine sgr ?_) | fail)
  refine sw_box fun b1 => ?_
  repeat' (first | with_reducible (first | refine go1 ?_ | refine sct ?_ | refine scf ?_ | refine sgr ?_) | fail)
  refine sw_build (ckV c.num v c.last) (by kernel_rfl) ?_
  repeat' (first | with_reducible (first | refine go1 ?_ | refine sct ?_ | refine scf ?_ | refine sgr ?_) | fail)
  refine sw_call (rcCkBytes_ok k r v c hv hi hl) ?_
  rintro _ _ (⟨h, rfl, rfl⟩ | ⟨h, b, t, rfl, rfl⟩)
  · repeat' (first | with_reducible (first | refine go1 ?_ | refine sct ?_ | refine scf ?_ | refine sgr ?_) | fail)
    refine sq_ret2 Try.results33 ?_
    refine ⟨_, .inl ⟨h, rfl, rfl⟩, ?_⟩
    repeat' (first | with_reducible exact Ent.refl _ | with_reducible refine Ent.take_eq ?_ ?_ | rfl | with_reducible refine Ent.oR ?_ | with_reducible refine Ent.trans (oR.drop _ _ _) ?_ | with_reducible refine Ent.trans (Ent.drop _ _) ?_)
  · repeat' (first | with_reducible (first | refine go1 ?_ | refine sct ?_ | refine scf ?_ | refine sgr ?_) | fail)
    refine sq_ret2 Try.results33 ?_
    refine ⟨_, .inr ⟨h, b, t, rfl, rfl⟩, ?_⟩
    repeat' (first | with_reducible exact Ent.refl _ | with_reducible refine Ent.take_eq ?_ ?_ | rfl | with_reducible refine Ent.oR ?_ | with_reducible refine Ent.trans (oR.drop _ _ _) ?_ | with_reducible refine Ent.trans (Ent.drop _ _) ?_)
end Go.Gsl

namespace Go.Gsl
set_option linter.unusedVariables false
open Go.Proofs

theorem txtN_ok {bs : List Int} (hb : Byt bs) {st : Nat × Int} (h : st.1 ≤ bs.length) : (nxt [] takeTxt bs st).2.1 ≤ bs.length ∧ Byt (nxt [] takeTxt bs st).1 ∧ (nxt [] takeTxt bs st).1.length ≤ bs.length := by
  have hbd : Byt (bs.drop st.1) := fun x hx => hb x (List.mem_of_mem_drop hx)
  have h2 := takeTxt_byt hbd
  have h3 : (bs.drop st.1).length ≤ bs.length := by rw [List.length_drop]; omega
  refine ⟨nxt_ok (fun g => (takeTxt_ok hbd g).2 |> fun q => q) h, ?_, ?_⟩
  all_goals unfold nxt; repeat' split
  all_goals first | (intro x hx; cases hx; done) | exact h2.1 | (simp; done) | (simp only; omega)
theorem flagN_ok {bs : List Int} (hb : Byt bs) {st : Nat × Int} (h : st.1 ≤ bs.length) : (nxt false takeFlag bs st).2.1 ≤ bs.length := by
  have hbd : Byt (bs.drop st.1) := fun x hx => hb x (List.mem_of_mem_drop hx)
  exact nxt_ok (fun g => (takeFlag_ok hbd g).2) h
theorem numN_ok {bs : List Int} (hb : Byt bs) {st : Nat × Int} (h : st.1 ≤ bs.length) : (nxt 0 takeInt bs st).2.1 ≤ bs.length ∧ I64 (nxt 0 takeInt bs st).1 := by
  rw [← num_nxt]
  exact num_ok hb h
theorem manyN_ok {bs : List Int} (hb : Byt bs) {st : Nat × Int} (h : st.1 ≤ bs.length) {most : Int} (hm : 0 ≤ most) : (manyN most bs st).2.1 ≤ bs.length ∧ 0 ≤ (manyN most bs st).1 ∧ (manyN most bs st).1 ≤ most := by
  have h1 := numN_ok hb h
  unfold manyN
  simp only
  split
  · exact ⟨h1.1, by simp only; omega, by simp only; omega⟩
  · split
    · exact ⟨h1.1, by simp only; omega, by simp only; omega⟩
    · exact ⟨h1.1, by omega, by omega⟩
theorem spN_ok {bs : List Int} (hb : Byt bs) {st : Nat × Int} (h : st.1 ≤ bs.length) : (spN bs st).2.1 ≤ bs.length ∧ Byt (spN bs st).1.key ∧ Byt (spN bs st).1.val ∧ I64 (spN bs st).1.ts ∧ (spN bs st).1.key.length ≤ bs.length ∧ (spN bs st).1.val.length ≤ bs.length := by
  have h1 := txtN_ok hb h
  have h2 := txtN_ok hb h1.1
  have h3 := numN_ok hb h2.1
  exact ⟨h3.1, h1.2.1, h2.2.1, h3.2, h1.2.2, h2.2.2⟩
theorem spsN_ok {bs : List Int} (hb : Byt bs) {st : Nat × Int} (h : st.1 ≤ bs.length) : ∀ n, (spsN bs st n).2.1 ≤ bs.length ∧ (spsN bs st n).1.length = n ∧ ∀ x ∈ (spsN bs st n).1, Byt x.key ∧ Byt x.val ∧ I64 x.ts ∧ x.key.length ≤ bs.length ∧ x.val.length ≤ bs.length
  | 0 => ⟨h, rfl, fun x hx => by cases hx⟩
  | n + 1 => by
    have h1 := spsN_ok hb h n
    have h2 := spN_ok hb h1.1
    refine ⟨h2.1, ?_, ?_⟩
    · unfold spsN
      rw [List.length_append, h1.2.1]
      rfl
    · intro x hx
      unfold spsN at hx
      rcases List.mem_append.1 hx with hx | hx
      · exact h1.2.2 x hx
      · rw [List.mem_singleton.1 hx]
        exact h2.2

theorem rcCkEnds_ok (p k : Nat) (r : HProp) (v : Value) (b o cp : Nat) (len : Nat) (st : Nat × Int) (u : Value) (c : Ck) (hv : v = .slice (some ⟨b, o, none⟩) len cp) (hu : RdS r u c.l) (hb : SpsB c.l) (hl : c.l.length ≤ 4611686018427387904) :
    Spec Try.prog 54 [.pointer (some ⟨p, 0, none⟩), .iface 106 (.agg (ckV c.num u c.last).toArray)] [p, k] [pts p (.cells (Rdr v st).toArray 100 (0, 0)), r]
    fun F w Rs' => w = .int .i64 (endE len c.chk st) ∧ Rs' = (k, r) :: F := by
  have hone := hu.one
  subst hv
  obtain ⟨at', e'⟩ := st
  refine spec_of Try.func54 rfl Try.ntmps54 rfl ?_
  intro w0 F
  unfold endE
  simp only
  repeat' (first | with_reducible (first | refine go1 ?_ | refine sct ?_ | refine scf ?_ | refine sgr ?_) | (with_reducible refine sc_cond (fun h => ?_) (fun h => ?_)) <;> (try (exfalso; first | contradiction | omega | exact h Iff.rfl)) | fail)
  · have he : e' = 0 := by omega
    subst he
    refine sc_lin ([(p, pts p (.cells (Rdr (.slice (some ⟨b, o, none⟩) len cp) (at', 0)).toArray 100 (0, 0)))]) (llp 0 (llp 1 (llp 2 (llp 3 (llp 4 (llp 5 (llp 6 (llp 7 (llp 8 (llp 9 ll0)))))))))) (by kernel_rfl) rfl (by kernel_rfl) ?_
    all_goals (iterate 10 refine go1l ?_)
    all_goals refine sl_done ?_
    repeat' (first | with_reducible (first | refine go1 ?_ | refine sct ?_ | refine scf ?_ | refine sgr ?_) | (with_reducible refine sc_cond (fun h => ?_) (fun h => ?_)) <;> (try (exfalso; first | contradiction | omega | exact h Iff.rfl)) | fail)
    · refine sw_store ?_
      repeat' (first | with_reducible (first | refine go1 ?_ | refine sct ?_ | refine scf ?_ | refine sgr ?_) | (with_reducible refine sc_cond (fun h => ?_) (fun h => ?_)) <;> (try (exfalso; first | contradiction | omega | exact h Iff.rfl)) | fail)
      refine sq_ret1 Try.results54 ?_
      refine ⟨_, ⟨?_, rfl⟩, Ent.drop _ _⟩
      rw [if_neg (by omega), if_pos (by omega)]
    · refine sw_invoke (rcCkCheck_ok k r u c hu hb hl) ?_
      rintro _ _ ⟨rfl, rfl⟩
      repeat' (first | with_reducible (first | refine go1 ?_ | refine sct ?_ | refine scf ?_ | refine sgr ?_) | fail)
      refine sw_store ?_
      repeat' (first | with_reducible (first | refine go1 ?_ | refine sct ?_ | refine scf ?_ | refine sgr ?_) | fail)
      refine sq_ret1 Try.results54 ?_
      refine ⟨_, ⟨?_, rfl⟩, Ent.drop _ _⟩
      rw [if_neg (by omega), if_neg (by omega)]
  · refine sq_ret1 Try.results54 ?_
    refine ⟨_, ⟨?_, rfl⟩, Ent.drop _ _⟩
    rw [if_pos (by omega)]

/-- a list's row that is nil or one's own -/
abbrev SpG (l : List Sp) : Nat × Nat × List Value → Res := nG 50 (spC l)
theorem NOk.rd {l : List Sp} {o : Option (Nat × Nat × List Value)} (h : NOk 3 (spC l) l.length o) : ∃ j : Nat, ∃ r : HProp, RdS r (nV l.length o) l := by
  cases o with
  | none =>
    obtain ⟨h1, h2⟩ := h.2.1 rfl
    have : l = [] := List.length_eq_zero_iff.1 h2
    subst this
    exact ⟨0, fun _ => True, RdS.nil _⟩
  | some x => obtain ⟨b, c, t⟩ := x; exact ⟨b, _, RdS.own (ty := 50) (fr := (0, 0)) (t := t) (h.2.2 b c t rfl).1⟩
end Go.Gsl

namespace Go.Gsl
set_option linter.unusedVariables false
open Go.Proofs

theorem sp_one (a b : ByteArray) (n : Int) : ∀ v ∈ [Value.string a, Value.string b, Value.int .i64 n], v.oneCell' = true := by
  intro v hv
  simp only [List.mem_cons, List.mem_nil_iff, or_false] at hv
  rcases hv with rfl | rfl | rfl <;> rfl
set_option maxHeartbeats 4000000 in
theorem rcTakeChunk_ok (k : Nat) (r : HProp) (b o c : Nat) (bs : List Int) (hc : bs.length ≤ c) (hr : Reads r (some ⟨b, o, none⟩) (bs.map (Value.int .u8))) (hb : Byt bs) (hl : bs.length ≤ 70368744177664) :
    Spec Try.prog 32 [.slice (some ⟨b, o, none⟩) bs.length c] [k] [r] fun F w Rs' => ∃ q, NOk 3 (spC (takeCk bs).1.l) (takeCk bs).1.l.length q ∧ w = .tuple #[.agg (ckV (takeCk bs).1.num (nV (takeCk bs).1.l.length q) (takeCk bs).1.last).toArray, .int .i64 (takeCk bs).2] ∧ Rs' = oR (SpG (takeCk bs).1.l) ((k, r) :: F) q := by
  refine spec_of Try.func32 rfl Try.ntmps32 rfl ?_
  intro w0 F
  repeat' (first | with_reducible (first | refine go1 ?_ | refine sct ?_ | refine scf ?_ | refine sgr ?_) | fail)
  refine sw_alloc fun b0 => ?_
  repeat' (first | with_reducible (first | refine go1 ?_ | refine sct ?_ | refine scf ?_ | refine sgr ?_) | fail)
  refine sw_build (Rdr (.slice (some ⟨b, o, none⟩) bs.length c) (0, 0)) rfl ?_
  refine sw_box fun p => ?_
  repeat' (first | with_reducible (first | refine go1 ?_ | refine sct ?_ | refine scf ?_ | refine sgr ?_) | fail)
  refine sw_call (rcNum_ok p k r b o c bs (0, 0) hc hr hb hl (Nat.zero_le _)) ?_
  rintro _ _ ⟨rfl, rfl⟩
  have h1 := numN_ok hb (st := (0, 0)) (Nat.zero_le _)
  rw [num_nxt]
  repeat' (first | with_reducible (first | refine go1 ?_ | refine sct ?_ | refine scf ?_ | refine sgr ?_) | fail)
  refine sw_call (rcFlag_ok p k r b o c bs (nxt 0 takeInt bs (0, 0)).2 hc hr hb hl h1.1) ?_
  rintro _ _ ⟨rfl, rfl⟩
  have h2 := flagN_ok hb h1.1
  have hM : ∀ l0, endE bs.length ((⟨(nxt 0 takeInt bs (0, 0)).1, (nxt false takeFlag bs (nxt 0 takeInt bs (0, 0)).2).1, l0⟩ : Ck)).chk (0, 0) = endE bs.length ((⟨(nxt 0 takeInt bs (0, 0)).1, (nxt false takeFlag bs (nxt 0 takeInt bs (0, 0)).2).1, l0⟩ : Ck)).chk (0, 0) := fun _ => rfl
  have hraw : rawCk bs = (⟨(nxt 0 takeInt bs (0, 0)).1, (nxt false takeFlag bs (nxt 0 takeInt bs (0, 0)).2).1, (spsN bs (manyN 16 bs (nxt false takeFlag bs (nxt 0 takeInt bs (0, 0)).2).2).2 (manyN 16 bs (nxt false takeFlag bs (nxt 0 takeInt bs (0, 0)).2).2).1.toNat).1⟩, (spsN bs (manyN 16 bs (nxt false takeFlag bs (nxt 0 takeInt bs (0, 0)).2).2).2 (manyN 16 bs (nxt false takeFlag bs (nxt 0 takeInt bs (0, 0)).2).2).1.toNat).2) := rfl
  clear hM
  generalize (nxt 0 takeInt bs (0, 0)).1 = nu at *
  generalize nxt false takeFlag bs (nxt 0 takeInt bs (0, 0)).2 = f at *
  obtain ⟨la, s2⟩ := f
  simp only at *
  repeat' (first | with_reducible (first | refine go1 ?_ | refine sct ?_ | refine scf ?_ | refine sgr ?_) | fail)
  refine sw_build (ckV nu (.slice none 0 0) la) (by kernel_rfl) ?_
  refine sw_alloc fun b5 => ?_
  refine sw_store_agg ?_
  repeat' (first | with_reducible (first | refine go1 ?_ | refine sct ?_ | refine scf ?_ | refine sgr ?_) | fail)
  refine sw_call (rcMany_ok p k r b o c bs s2 16 hc hr hb hl h2) ?_
  rintro _ _ ⟨rfl, rfl⟩
  have h3 := manyN_ok hb h2 (most := 16) (by omega)
  generalize manyN 16 bs s2 = M at *
  obtain ⟨m, s3⟩ := M
  simp only at *
  have h4 := spsN_ok hb h3.1
  repeat' (first | with_reducible (first | refine go1 ?_ | refine sct ?_ | refine scf ?_ | refine sgr ?_) | fail)
  refine sc_loop (α := { x : Nat × Option (Nat × Nat × List Value) // x.1 ≤ m.toNat ∧ NOk 3 (spC (spsN bs s3 x.1).1) (spsN bs s3 x.1).1.length x.2 }) (fun x => [(2, .pointer (some ⟨b0, 0, none⟩)), (4, .pointer (some ⟨p, 0, none⟩)), (5, .pointer (some ⟨b5, 0, none⟩)), (16, .int .i64 m), (17, .int .i64 (x.1.1 : Int))])
    (fun x => oR (SpG (spsN bs s3 x.1.1).1) ((b5, pts b5 (.cells (ckV nu (nV (spsN bs s3 x.1.1).1.length x.1.2) la).toArray 28 (0, 0))) :: (p, pts p (.cells (Rdr (.slice (some ⟨b, o, none⟩) bs.length c) (spsN bs s3 x.1.1).2).toArray 100 (0, 0))) :: (b0, pts b0 (.cells (ckV 0 (.slice none 0 0) false).toArray 28 (0, 0))) :: (k, r) :: F) x.1.2) (fun x => m.toNat - x.1.1) ⟨(0, none), Nat.zero_le _, rfl, fun _ => ⟨rfl, rfl⟩, fun b c t h => by cases h⟩ ?_ ?_ ?_
  · repeat' (first | exact says_nil | refine says_cons rfl ?_ | refine says_cons (by simp) ?_)
  · show Ent _ ((b5, pts b5 (.cells (ckV nu (.slice none 0 0) la).toArray 28 (0, 0))) :: (p, pts p (.cells (Rdr (.slice (some ⟨b, o, none⟩) bs.length c) s3).toArray 100 (0, 0))) :: (b0, pts b0 (.cells (ckV 0 (.slice none 0 0) false).toArray 28 (0, 0))) :: (k, r) :: F)
    repeat' (first | with_reducible exact Ent.refl _ | with_reducible refine Ent.take_eq ?_ ?_ | rfl | with_reducible refine Ent.oR ?_ | with_reducible refine Ent.trans (oR.drop _ _ _) ?_ | with_reducible refine Ent.trans (Ent.drop _ _) ?_)
  rintro ⟨⟨i, q⟩, hx⟩ e
  have hi := hx.1
  have hq := hx.2
  (try simp only at hi hq)
  simp only [List.cons_append, List.nil_append]
  have h5 := h4 i
  have h6 := h4 (i + 1)
  have h7 : (spsN bs s3 (i + 1)) = ((spsN bs s3 i).1 ++ [(spN bs (spsN bs s3 i).2).1], (spN bs (spsN bs s3 i).2).2) := rfl
  rw [h7] at h6
  obtain ⟨⟨li, sti⟩, hS⟩ : ∃ S, spsN bs s3 i = S := ⟨_, rfl⟩
  rw [hS] at hq h5 h6 h7 ⊢
  simp only at hq h5 h6 h7 ⊢
  repeat' (first | with_reducible refine sw_in (by omega) ?_ | with_reducible (first | refine go1 ?_ | refine sct ?_ | refine scf ?_ | refine sgr ?_) | (with_reducible refine sc_cond (fun h => ?_) (fun h => ?_)) <;> (try (exfalso; first | contradiction | omega | exact h Iff.rfl)) | fail)
  · have hi3 : i < m.toNat := by omega
    have h8 := txtN_ok hb h5.1
    have h9 := txtN_ok hb h8.1
    have hsp : spN bs sti = (⟨(nxt [] takeTxt bs sti).1, (nxt [] takeTxt bs (nxt [] takeTxt bs sti).2).1, (num bs (nxt [] takeTxt bs (nxt [] takeTxt bs sti).2).2).1⟩, (num bs (nxt [] takeTxt bs (nxt [] takeTxt bs sti).2).2).2) := rfl
    generalize spN bs sti = X at *
    obtain ⟨x, stx⟩ := X
    have hxe : x = ⟨(nxt [] takeTxt bs sti).1, (nxt [] takeTxt bs (nxt [] takeTxt bs sti).2).1, (num bs (nxt [] takeTxt bs (nxt [] takeTxt bs sti).2).2).1⟩ ∧ stx = (num bs (nxt [] takeTxt bs (nxt [] takeTxt bs sti).2).2).2 := by
      simp only [Prod.mk.injEq] at hsp
      exact hsp
    have hcs : spC li ++ [Value.string (strB (nxt [] takeTxt bs sti).1), .string (strB (nxt [] takeTxt bs (nxt [] takeTxt bs sti).2).1), .int .i64 (num bs (nxt [] takeTxt bs (nxt [] takeTxt bs sti).2).2).1] = spC (li ++ [x]) := by
      rw [hxe.1, spC_app]
      rfl
    have hln : li.length + 1 = (li ++ [x]).length := by simp
    refine sc_drawC (m := 13) ([]) CalmC.out (by kernel_rfl) rfl (fun hcalm => ?_)
    all_goals (first | refine sg_take 0 hcalm rfl (by kernel_rfl) (by kernel_rfl) (by kernel_rfl) ?_)
    all_goals (first | refine sg_take 2 hcalm rfl (by kernel_rfl) (by kernel_rfl) (by kernel_rfl) ?_)
    all_goals (first | refine sg_take 4 hcalm rfl (by kernel_rfl) (by kernel_rfl) (by kernel_rfl) ?_)
    all_goals (first | refine sg_take 6 hcalm rfl (by kernel_rfl) (by kernel_rfl) (by kernel_rfl) ?_)
    refine sg_two 1 3 rfl rfl (by kernel_rfl) rfl ?g1a ?g1b
    case' g1a =>
      all_goals (repeat' (first | with_reducible (first | refine go1 ?_ | refine sct ?_ | refine scf ?_ | refine sgr ?_) | ((with_reducible refine sw_callf (rcText_ok p k r b o c bs sti hc hr hb hl h5.1) ?_); rintro _ _ ⟨rfl, rfl⟩) | ((with_reducible refine sw_callf (rcText_ok p k r b o c bs (nxt [] takeTxt bs sti).2 hc hr hb hl h8.1) ?_); rintro _ _ ⟨rfl, rfl⟩) | ((with_reducible refine sw_callf (rcNum_ok p k r b o c bs (nxt [] takeTxt bs (nxt [] takeTxt bs sti).2).2 hc hr hb hl h9.1) ?_); rintro _ _ ⟨rfl, rfl⟩) | with_reducible refine sw_buildSliceN [.string (strB (nxt [] takeTxt bs sti).1), .string (strB (nxt [] takeTxt bs (nxt [] takeTxt bs sti).2).1), .int .i64 (num bs (nxt [] takeTxt bs (nxt [] takeTxt bs sti).2).2).1] ⟨by omega, by omega, by omega⟩ (by kernel_rfl) fun b3 => ?_ | with_reducible refine sw_appendNV (spC li) [.string (strB (nxt [] takeTxt bs sti).1), .string (strB (nxt [] takeTxt bs (nxt [] takeTxt bs sti).2).1), .int .i64 (num bs (nxt [] takeTxt bs (nxt [] takeTxt bs sti).2).2).1] li.length q hq (sp_one _ _ _) rfl (by omega) ⟨rfl, by omega, by omega⟩ fun q2 hne hok => ?_ | with_reducible refine sw_store ?_ | with_reducible refine sg_back ?_ | fail))
      all_goals (refine sg_one 3 rfl (by kernel_rfl) rfl ?_)
      all_goals (repeat' (first | with_reducible (first | refine go1 ?_ | refine sct ?_ | refine scf ?_ | refine sgr ?_) | ((with_reducible refine sw_callf (rcText_ok p k r b o c bs sti hc hr hb hl h5.1) ?_); rintro _ _ ⟨rfl, rfl⟩) | ((with_reducible refine sw_callf (rcText_ok p k r b o c bs (nxt [] takeTxt bs sti).2 hc hr hb hl h8.1) ?_); rintro _ _ ⟨rfl, rfl⟩) | ((with_reducible refine sw_callf (rcNum_ok p k r b o c bs (nxt [] takeTxt bs (nxt [] takeTxt bs sti).2).2 hc hr hb hl h9.1) ?_); rintro _ _ ⟨rfl, rfl⟩) | with_reducible refine sw_buildSliceN [.string (strB (nxt [] takeTxt bs sti).1), .string (strB (nxt [] takeTxt bs (nxt [] takeTxt bs sti).2).1), .int .i64 (num bs (nxt [] takeTxt bs (nxt [] takeTxt bs sti).2).2).1] ⟨by omega, by omega, by omega⟩ (by kernel_rfl) fun b3 => ?_ | with_reducible refine sw_appendNV (spC li) [.string (strB (nxt [] takeTxt bs sti).1), .string (strB (nxt [] takeTxt bs (nxt [] takeTxt bs sti).2).1), .int .i64 (num bs (nxt [] takeTxt bs (nxt [] takeTxt bs sti).2).2).1] li.length q hq (sp_one _ _ _) rfl (by omega) ⟨rfl, by omega, by omega⟩ fun q2 hne hok => ?_ | with_reducible refine sw_store ?_ | with_reducible refine sg_back ?_ | fail))
      all_goals (refine sg_one 5 rfl (by kernel_rfl) rfl ?_)
      all_goals (repeat' (first | with_reducible (first | refine go1 ?_ | refine sct ?_ | refine scf ?_ | refine sgr ?_) | ((with_reducible refine sw_callf (rcText_ok p k r b o c bs sti hc hr hb hl h5.1) ?_); rintro _ _ ⟨rfl, rfl⟩) | ((with_reducible refine sw_callf (rcText_ok p k r b o c bs (nxt [] takeTxt bs sti).2 hc hr hb hl h8.1) ?_); rintro _ _ ⟨rfl, rfl⟩) | ((with_reducible refine sw_callf (rcNum_ok p k r b o c bs (nxt [] takeTxt bs (nxt [] takeTxt bs sti).2).2 hc hr hb hl h9.1) ?_); rintro _ _ ⟨rfl, rfl⟩) | with_reducible refine sw_buildSliceN [.string (strB (nxt [] takeTxt bs sti).1), .string (strB (nxt [] takeTxt bs (nxt [] takeTxt bs sti).2).1), .int .i64 (num bs (nxt [] takeTxt bs (nxt [] takeTxt bs sti).2).2).1] ⟨by omega, by omega, by omega⟩ (by kernel_rfl) fun b3 => ?_ | with_reducible refine sw_appendNV (spC li) [.string (strB (nxt [] takeTxt bs sti).1), .string (strB (nxt [] takeTxt bs (nxt [] takeTxt bs sti).2).1), .int .i64 (num bs (nxt [] takeTxt bs (nxt [] takeTxt bs sti).2).2).1] li.length q hq (sp_one _ _ _) rfl (by omega) ⟨rfl, by omega, by omega⟩ fun q2 hne hok => ?_ | with_reducible refine sw_store ?_ | with_reducible refine sg_back ?_ | fail))
      all_goals (refine sg_one 7 rfl (by kernel_rfl) rfl ?_)
      all_goals (repeat' (first | with_reducible (first | refine go1 ?_ | refine sct ?_ | refine scf ?_ | refine sgr ?_) | ((with_reducible refine sw_callf (rcText_ok p k r b o c bs sti hc hr hb hl h5.1) ?_); rintro _ _ ⟨rfl, rfl⟩) | ((with_reducible refine sw_callf (rcText_ok p k r b o c bs (nxt [] takeTxt bs sti).2 hc hr hb hl h8.1) ?_); rintro _ _ ⟨rfl, rfl⟩) | ((with_reducible refine sw_callf (rcNum_ok p k r b o c bs (nxt [] takeTxt bs (nxt [] takeTxt bs sti).2).2 hc hr hb hl h9.1) ?_); rintro _ _ ⟨rfl, rfl⟩) | with_reducible refine sw_buildSliceN [.string (strB (nxt [] takeTxt bs sti).1), .string (strB (nxt [] takeTxt bs (nxt [] takeTxt bs sti).2).1), .int .i64 (num bs (nxt [] takeTxt bs (nxt [] takeTxt bs sti).2).2).1] ⟨by omega, by omega, by omega⟩ (by kernel_rfl) fun b3 => ?_ | with_reducible refine sw_appendNV (spC li) [.string (strB (nxt [] takeTxt bs sti).1), .string (strB (nxt [] takeTxt bs (nxt [] takeTxt bs sti).2).1), .int .i64 (num bs (nxt [] takeTxt bs (nxt [] takeTxt bs sti).2).2).1] li.length q hq (sp_one _ _ _) rfl (by omega) ⟨rfl, by omega, by omega⟩ fun q2 hne hok => ?_ | with_reducible refine sw_store ?_ | with_reducible refine sg_back ?_ | fail))
      all_goals (first | refine sg_take 8 hcalm rfl (by kernel_rfl) (by kernel_rfl) (by kernel_rfl) (h := runop_buildR [.string (strB (nxt [] takeTxt bs sti).1), .string (strB (nxt [] takeTxt bs (nxt [] takeTxt bs sti).2).1), .int .i64 (num bs (nxt [] takeTxt bs (nxt [] takeTxt bs sti).2).2).1] (by kernel_rfl)) ?_ | refine sg_take 8 hcalm rfl (by kernel_rfl) (by kernel_rfl) (by kernel_rfl) ?_)
      all_goals (refine sg_one 9 rfl (by kernel_rfl) rfl ?_)
      all_goals (repeat' (first | with_reducible (first | refine go1 ?_ | refine sct ?_ | refine scf ?_ | refine sgr ?_) | ((with_reducible refine sw_callf (rcText_ok p k r b o c bs sti hc hr hb hl h5.1) ?_); rintro _ _ ⟨rfl, rfl⟩) | ((with_reducible refine sw_callf (rcText_ok p k r b o c bs (nxt [] takeTxt bs sti).2 hc hr hb hl h8.1) ?_); rintro _ _ ⟨rfl, rfl⟩) | ((with_reducible refine sw_callf (rcNum_ok p k r b o c bs (nxt [] takeTxt bs (nxt [] takeTxt bs sti).2).2 hc hr hb hl h9.1) ?_); rintro _ _ ⟨rfl, rfl⟩) | with_reducible refine sw_buildSliceN [.string (strB (nxt [] takeTxt bs sti).1), .string (strB (nxt [] takeTxt bs (nxt [] takeTxt bs sti).2).1), .int .i64 (num bs (nxt [] takeTxt bs (nxt [] takeTxt bs sti).2).2).1] ⟨by omega, by omega, by omega⟩ (by kernel_rfl) fun b3 => ?_ | with_reducible refine sw_appendNV (spC li) [.string (strB (nxt [] takeTxt bs sti).1), .string (strB (nxt [] takeTxt bs (nxt [] takeTxt bs sti).2).1), .int .i64 (num bs (nxt [] takeTxt bs (nxt [] takeTxt bs sti).2).2).1] li.length q hq (sp_one _ _ _) rfl (by omega) ⟨rfl, by omega, by omega⟩ fun q2 hne hok => ?_ | with_reducible refine sw_store ?_ | with_reducible refine sg_back ?_ | fail))
      all_goals (refine sg_one 10 rfl (by kernel_rfl) rfl ?_)
      all_goals (repeat' (first | with_reducible (first | refine go1 ?_ | refine sct ?_ | refine scf ?_ | refine sgr ?_) | ((with_reducible refine sw_callf (rcText_ok p k r b o c bs sti hc hr hb hl h5.1) ?_); rintro _ _ ⟨rfl, rfl⟩) | ((with_reducible refine sw_callf (rcText_ok p k r b o c bs (nxt [] takeTxt bs sti).2 hc hr hb hl h8.1) ?_); rintro _ _ ⟨rfl, rfl⟩) | ((with_reducible refine sw_callf (rcNum_ok p k r b o c bs (nxt [] takeTxt bs (nxt [] takeTxt bs sti).2).2 hc hr hb hl h9.1) ?_); rintro _ _ ⟨rfl, rfl⟩) | with_reducible refine sw_buildSliceN [.string (strB (nxt [] takeTxt bs sti).1), .string (strB (nxt [] takeTxt bs (nxt [] takeTxt bs sti).2).1), .int .i64 (num bs (nxt [] takeTxt bs (nxt [] takeTxt bs sti).2).2).1] ⟨by omega, by omega, by omega⟩ (by kernel_rfl) fun b3 => ?_ | with_reducible refine sw_appendNV (spC li) [.string (strB (nxt [] takeTxt bs sti).1), .string (strB (nxt [] takeTxt bs (nxt [] takeTxt bs sti).2).1), .int .i64 (num bs (nxt [] takeTxt bs (nxt [] takeTxt bs sti).2).2).1] li.length q hq (sp_one _ _ _) rfl (by omega) ⟨rfl, by omega, by omega⟩ fun q2 hne hok => ?_ | with_reducible refine sw_store ?_ | with_reducible refine sg_back ?_ | fail))
      all_goals (first | refine sg_take 11 hcalm rfl (by kernel_rfl) (by kernel_rfl) (by kernel_rfl) ?_)
      all_goals (refine sg_one 12 rfl (by kernel_rfl) rfl ?_)
      all_goals (repeat' (first | with_reducible (first | refine go1 ?_ | refine sct ?_ | refine scf ?_ | refine sgr ?_) | ((with_reducible refine sw_callf (rcText_ok p k r b o c bs sti hc hr hb hl h5.1) ?_); rintro _ _ ⟨rfl, rfl⟩) | ((with_reducible refine sw_callf (rcText_ok p k r b o c bs (nxt [] takeTxt bs sti).2 hc hr hb hl h8.1) ?_); rintro _ _ ⟨rfl, rfl⟩) | ((with_reducible refine sw_callf (rcNum_ok p k r b o c bs (nxt [] takeTxt bs (nxt [] takeTxt bs sti).2).2 hc hr hb hl h9.1) ?_); rintro _ _ ⟨rfl, rfl⟩) | with_reducible refine sw_buildSliceN [.string (strB (nxt [] takeTxt bs sti).1), .string (strB (nxt [] takeTxt bs (nxt [] takeTxt bs sti).2).1), .int .i64 (num bs (nxt [] takeTxt bs (nxt [] takeTxt bs sti).2).2).1] ⟨by omega, by omega, by omega⟩ (by kernel_rfl) fun b3 => ?_ | with_reducible refine sw_appendNV (spC li) [.string (strB (nxt [] takeTxt bs sti).1), .string (strB (nxt [] takeTxt bs (nxt [] takeTxt bs sti).2).1), .int .i64 (num bs (nxt [] takeTxt bs (nxt [] takeTxt bs sti).2).2).1] li.length q hq (sp_one _ _ _) rfl (by omega) ⟨rfl, by omega, by omega⟩ fun q2 hne hok => ?_ | with_reducible refine sw_store ?_ | with_reducible refine sg_back ?_ | fail))
      all_goals (refine sg_done (by kernel_rfl) rfl ?_)
    case' g1b =>
      all_goals (repeat' (first | with_reducible (first | refine go1 ?_ | refine sct ?_ | refine scf ?_ | refine sgr ?_) | ((with_reducible refine sw_callf (rcText_ok p k r b o c bs sti hc hr hb hl h5.1) ?_); rintro _ _ ⟨rfl, rfl⟩) | ((with_reducible refine sw_callf (rcText_ok p k r b o c bs (nxt [] takeTxt bs sti).2 hc hr hb hl h8.1) ?_); rintro _ _ ⟨rfl, rfl⟩) | ((with_reducible refine sw_callf (rcNum_ok p k r b o c bs (nxt [] takeTxt bs (nxt [] takeTxt bs sti).2).2 hc hr hb hl h9.1) ?_); rintro _ _ ⟨rfl, rfl⟩) | with_reducible refine sw_buildSliceN [.string (strB (nxt [] takeTxt bs sti).1), .string (strB (nxt [] takeTxt bs (nxt [] takeTxt bs sti).2).1), .int .i64 (num bs (nxt [] takeTxt bs (nxt [] takeTxt bs sti).2).2).1] ⟨by omega, by omega, by omega⟩ (by kernel_rfl) fun b3 => ?_ | with_reducible refine sw_appendNV (spC li) [.string (strB (nxt [] takeTxt bs sti).1), .string (strB (nxt [] takeTxt bs (nxt [] takeTxt bs sti).2).1), .int .i64 (num bs (nxt [] takeTxt bs (nxt [] takeTxt bs sti).2).2).1] li.length q hq (sp_one _ _ _) rfl (by omega) ⟨rfl, by omega, by omega⟩ fun q2 hne hok => ?_ | with_reducible refine sw_store ?_ | with_reducible refine sg_back ?_ | fail))
      refine sg_two 1 5 rfl rfl (by kernel_rfl) rfl ?g2a ?g2b
      case' g2a =>
        all_goals (repeat' (first | with_reducible (first | refine go1 ?_ | refine sct ?_ | refine scf ?_ | refine sgr ?_) | ((with_reducible refine sw_callf (rcText_ok p k r b o c bs sti hc hr hb hl h5.1) ?_); rintro _ _ ⟨rfl, rfl⟩) | ((with_reducible refine sw_callf (rcText_ok p k r b o c bs (nxt [] takeTxt bs sti).2 hc hr hb hl h8.1) ?_); rintro _ _ ⟨rfl, rfl⟩) | ((with_reducible refine sw_callf (rcNum_ok p k r b o c bs (nxt [] takeTxt bs (nxt [] takeTxt bs sti).2).2 hc hr hb hl h9.1) ?_); rintro _ _ ⟨rfl, rfl⟩) | with_reducible refine sw_buildSliceN [.string (strB (nxt [] takeTxt bs sti).1), .string (strB (nxt [] takeTxt bs (nxt [] takeTxt bs sti).2).1), .int .i64 (num bs (nxt [] takeTxt bs (nxt [] takeTxt bs sti).2).2).1] ⟨by omega, by omega, by omega⟩ (by kernel_rfl) fun b3 => ?_ | with_reducible refine sw_appendNV (spC li) [.string (strB (nxt [] takeTxt bs sti).1), .string (strB (nxt [] takeTxt bs (nxt [] takeTxt bs sti).2).1), .int .i64 (num bs (nxt [] takeTxt bs (nxt [] takeTxt bs sti).2).2).1] li.length q hq (sp_one _ _ _) rfl (by omega) ⟨rfl, by omega, by omega⟩ fun q2 hne hok => ?_ | with_reducible refine sw_store ?_ | with_reducible refine sg_back ?_ | fail))
        all_goals (refine sg_one 5 rfl (by kernel_rfl) rfl ?_)
        all_goals (repeat' (first | with_reducible (first | refine go1 ?_ | refine sct ?_ | refine scf ?_ | refine sgr ?_) | ((with_reducible refine sw_callf (rcText_ok p k r b o c bs sti hc hr hb hl h5.1) ?_); rintro _ _ ⟨rfl, rfl⟩) | ((with_reducible refine sw_callf (rcText_ok p k r b o c bs (nxt [] takeTxt bs sti).2 hc hr hb hl h8.1) ?_); rintro _ _ ⟨rfl, rfl⟩) | ((with_reducible refine sw_callf (rcNum_ok p k r b o c bs (nxt [] takeTxt bs (nxt [] takeTxt bs sti).2).2 hc hr hb hl h9.1) ?_); rintro _ _ ⟨rfl, rfl⟩) | with_reducible refine sw_buildSliceN [.string (strB (nxt [] takeTxt bs sti).1), .string (strB (nxt [] takeTxt bs (nxt [] takeTxt bs sti).2).1), .int .i64 (num bs (nxt [] takeTxt bs (nxt [] takeTxt bs sti).2).2).1] ⟨by omega, by omega, by omega⟩ (by kernel_rfl) fun b3 => ?_ | with_reducible refine sw_appendNV (spC li) [.string (strB (nxt [] takeTxt bs sti).1), .string (strB (nxt [] takeTxt bs (nxt [] takeTxt bs sti).2).1), .int .i64 (num bs (nxt [] takeTxt bs (nxt [] takeTxt bs sti).2).2).1] li.length q hq (sp_one _ _ _) rfl (by omega) ⟨rfl, by omega, by omega⟩ fun q2 hne hok => ?_ | with_reducible refine sw_store ?_ | with_reducible refine sg_back ?_ | fail))
        all_goals (refine sg_one 7 rfl (by kernel_rfl) rfl ?_)
        all_goals (repeat' (first | with_reducible (first | refine go1 ?_ | refine sct ?_ | refine scf ?_ | refine sgr ?_) | ((with_reducible refine sw_callf (rcText_ok p k r b o c bs sti hc hr hb hl h5.1) ?_); rintro _ _ ⟨rfl, rfl⟩) | ((with_reducible refine sw_callf (rcText_ok p k r b o c bs (nxt [] takeTxt bs sti).2 hc hr hb hl h8.1) ?_); rintro _ _ ⟨rfl, rfl⟩) | ((with_reducible refine sw_callf (rcNum_ok p k r b o c bs (nxt [] takeTxt bs (nxt [] takeTxt bs sti).2).2 hc hr hb hl h9.1) ?_); rintro _ _ ⟨rfl, rfl⟩) | with_reducible refine sw_buildSliceN [.string (strB (nxt [] takeTxt bs sti).1), .string (strB (nxt [] takeTxt bs (nxt [] takeTxt bs sti).2).1), .int .i64 (num bs (nxt [] takeTxt bs (nxt [] takeTxt bs sti).2).2).1] ⟨by omega, by omega, by omega⟩ (by kernel_rfl) fun b3 => ?_ | with_reducible refine sw_appendNV (spC li) [.string (strB (nxt [] takeTxt bs sti).1), .string (strB (nxt [] takeTxt bs (nxt [] takeTxt bs sti).2).1), .int .i64 (num bs (nxt [] takeTxt bs (nxt [] takeTxt bs sti).2).2).1] li.length q hq (sp_one _ _ _) rfl (by omega) ⟨rfl, by omega, by omega⟩ fun q2 hne hok => ?_ | with_reducible refine sw_store ?_ | with_reducible refine sg_back ?_ | fail))
        all_goals (first | refine sg_take 8 hcalm rfl (by kernel_rfl) (by kernel_rfl) (by kernel_rfl) (h := runop_buildR [.string (strB (nxt [] takeTxt bs sti).1), .string (strB (nxt [] takeTxt bs (nxt [] takeTxt bs sti).2).1), .int .i64 (num bs (nxt [] takeTxt bs (nxt [] takeTxt bs sti).2).2).1] (by kernel_rfl)) ?_ | refine sg_take 8 hcalm rfl (by kernel_rfl) (by kernel_rfl) (by kernel_rfl) ?_)
        all_goals (refine sg_one 9 rfl (by kernel_rfl) rfl ?_)
        all_goals (repeat' (first | with_reducible (first | refine go1 ?_ | refine sct ?_ | refine scf ?_ | refine sgr ?_) | ((with_reducible refine sw_callf (rcText_ok p k r b o c bs sti hc hr hb hl h5.1) ?_); rintro _ _ ⟨rfl, rfl⟩) | ((with_reducible refine sw_callf (rcText_ok p k r b o c bs (nxt [] takeTxt bs sti).2 hc hr hb hl h8.1) ?_); rintro _ _ ⟨rfl, rfl⟩) | ((with_reducible refine sw_callf (rcNum_ok p k r b o c bs (nxt [] takeTxt bs (nxt [] takeTxt bs sti).2).2 hc hr hb hl h9.1) ?_); rintro _ _ ⟨rfl, rfl⟩) | with_reducible refine sw_buildSliceN [.string (strB (nxt [] takeTxt bs sti).1), .string (strB (nxt [] takeTxt bs (nxt [] takeTxt bs sti).2).1), .int .i64 (num bs (nxt [] takeTxt bs (nxt [] takeTxt bs sti).2).2).1] ⟨by omega, by omega, by omega⟩ (by kernel_rfl) fun b3 => ?_ | with_reducible refine sw_appendNV (spC li) [.string (strB (nxt [] takeTxt bs sti).1), .string (strB (nxt [] takeTxt bs (nxt [] takeTxt bs sti).2).1), .int .i64 (num bs (nxt [] takeTxt bs (nxt [] takeTxt bs sti).2).2).1] li.length q hq (sp_one _ _ _) rfl (by omega) ⟨rfl, by omega, by omega⟩ fun q2 hne hok => ?_ | with_reducible refine sw_store ?_ | with_reducible refine sg_back ?_ | fail))
        all_goals (refine sg_one 10 rfl (by kernel_rfl) rfl ?_)
        all_goals (repeat' (first | with_reducible (first | refine go1 ?_ | refine sct ?_ | refine scf ?_ | refine sgr ?_) | ((with_reducible refine sw_callf (rcText_ok p k r b o c bs sti hc hr hb hl h5.1) ?_); rintro _ _ ⟨rfl, rfl⟩) | ((with_reducible refine sw_callf (rcText_ok p k r b o c bs (nxt [] takeTxt bs sti).2 hc hr hb hl h8.1) ?_); rintro _ _ ⟨rfl, rfl⟩) | ((with_reducible refine sw_callf (rcNum_ok p k r b o c bs (nxt [] takeTxt bs (nxt [] takeTxt bs sti).2).2 hc hr hb hl h9.1) ?_); rintro _ _ ⟨rfl, rfl⟩) | with_reducible refine sw_buildSliceN [.string (strB (nxt [] takeTxt bs sti).1), .string (strB (nxt [] takeTxt bs (nxt [] takeTxt bs sti).2).1), .int .i64 (num bs (nxt [] takeTxt bs (nxt [] takeTxt bs sti).2).2).1] ⟨by omega, by omega, by omega⟩ (by kernel_rfl) fun b3 => ?_ | with_reducible refine sw_appendNV (spC li) [.string (strB (nxt [] takeTxt bs sti).1), .string (strB (nxt [] takeTxt bs (nxt [] takeTxt bs sti).2).1), .int .i64 (num bs (nxt [] takeTxt bs (nxt [] takeTxt bs sti).2).2).1] li.length q hq (sp_one _ _ _) rfl (by omega) ⟨rfl, by omega, by omega⟩ fun q2 hne hok => ?_ | with_reducible refine sw_store ?_ | with_reducible refine sg_back ?_ | fail))
        all_goals (first | refine sg_take 11 hcalm rfl (by kernel_rfl) (by kernel_rfl) (by kernel_rfl) ?_)
        all_goals (refine sg_one 12 rfl (by kernel_rfl) rfl ?_)
        all_goals (repeat' (first | with_reducible (first | refine go1 ?_ | refine sct ?_ | refine scf ?_ | refine sgr ?_) | ((with_reducible refine sw_callf (rcText_ok p k r b o c bs sti hc hr hb hl h5.1) ?_); rintro _ _ ⟨rfl, rfl⟩) | ((with_reducible refine sw_callf (rcText_ok p k r b o c bs (nxt [] takeTxt bs sti).2 hc hr hb hl h8.1) ?_); rintro _ _ ⟨rfl, rfl⟩) | ((with_reducible refine sw_callf (rcNum_ok p k r b o c bs (nxt [] takeTxt bs (nxt [] takeTxt bs sti).2).2 hc hr hb hl h9.1) ?_); rintro _ _ ⟨rfl, rfl⟩) | with_reducible refine sw_buildSliceN [.string (strB (nxt [] takeTxt bs sti).1), .string (strB (nxt [] takeTxt bs (nxt [] takeTxt bs sti).2).1), .int .i64 (num bs (nxt [] takeTxt bs (nxt [] takeTxt bs sti).2).2).1] ⟨by omega, by omega, by omega⟩ (by kernel_rfl) fun b3 => ?_ | with_reducible refine sw_appendNV (spC li) [.string (strB (nxt [] takeTxt bs sti).1), .string (strB (nxt [] takeTxt bs (nxt [] takeTxt bs sti).2).1), .int .i64 (num bs (nxt [] takeTxt bs (nxt [] takeTxt bs sti).2).2).1] li.length q hq (sp_one _ _ _) rfl (by omega) ⟨rfl, by omega, by omega⟩ fun q2 hne hok => ?_ | with_reducible refine sw_store ?_ | with_reducible refine sg_back ?_ | fail))
        all_goals (refine sg_done (by kernel_rfl) rfl ?_)
      case' g2b =>
        all_goals (repeat' (first | with_reducible (first | refine go1 ?_ | refine sct ?_ | refine scf ?_ | refine sgr ?_) | ((with_reducible refine sw_callf (rcText_ok p k r b o c bs sti hc hr hb hl h5.1) ?_); rintro _ _ ⟨rfl, rfl⟩) | ((with_reducible refine sw_callf (rcText_ok p k r b o c bs (nxt [] takeTxt bs sti).2 hc hr hb hl h8.1) ?_); rintro _ _ ⟨rfl, rfl⟩) | ((with_reducible refine sw_callf (rcNum_ok p k r b o c bs (nxt [] takeTxt bs (nxt [] takeTxt bs sti).2).2 hc hr hb hl h9.1) ?_); rintro _ _ ⟨rfl, rfl⟩) | with_reducible refine sw_buildSliceN [.string (strB (nxt [] takeTxt bs sti).1), .string (strB (nxt [] takeTxt bs (nxt [] takeTxt bs sti).2).1), .int .i64 (num bs (nxt [] takeTxt bs (nxt [] takeTxt bs sti).2).2).1] ⟨by omega, by omega, by omega⟩ (by kernel_rfl) fun b3 => ?_ | with_reducible refine sw_appendNV (spC li) [.string (strB (nxt [] takeTxt bs sti).1), .string (strB (nxt [] takeTxt bs (nxt [] takeTxt bs sti).2).1), .int .i64 (num bs (nxt [] takeTxt bs (nxt [] takeTxt bs sti).2).2).1] li.length q hq (sp_one _ _ _) rfl (by omega) ⟨rfl, by omega, by omega⟩ fun q2 hne hok => ?_ | with_reducible refine sw_store ?_ | with_reducible refine sg_back ?_ | fail))
        refine sg_two 1 7 rfl rfl (by kernel_rfl) rfl ?g3a ?g3b
        case' g3a =>
          all_goals (repeat' (first | with_reducible (first | refine go1 ?_ | refine sct ?_ | refine scf ?_ | refine sgr ?_) | ((with_reducible refine sw_callf (rcText_ok p k r b o c bs sti hc hr hb hl h5.1) ?_); rintro _ _ ⟨rfl, rfl⟩) | ((with_reducible refine sw_callf (rcText_ok p k r b o c bs (nxt [] takeTxt bs sti).2 hc hr hb hl h8.1) ?_); rintro _ _ ⟨rfl, rfl⟩) | ((with_reducible refine sw_callf (rcNum_ok p k r b o c bs (nxt [] takeTxt bs (nxt [] takeTxt bs sti).2).2 hc hr hb hl h9.1) ?_); rintro _ _ ⟨rfl, rfl⟩) | with_reducible refine sw_buildSliceN [.string (strB (nxt [] takeTxt bs sti).1), .string (strB (nxt [] takeTxt bs (nxt [] takeTxt bs sti).2).1), .int .i64 (num bs (nxt [] takeTxt bs (nxt [] takeTxt bs sti).2).2).1] ⟨by omega, by omega, by omega⟩ (by kernel_rfl) fun b3 => ?_ | with_reducible refine sw_appendNV (spC li) [.string (strB (nxt [] takeTxt bs sti).1), .string (strB (nxt [] takeTxt bs (nxt [] takeTxt bs sti).2).1), .int .i64 (num bs (nxt [] takeTxt bs (nxt [] takeTxt bs sti).2).2).1] li.length q hq (sp_one _ _ _) rfl (by omega) ⟨rfl, by omega, by omega⟩ fun q2 hne hok => ?_ | with_reducible refine sw_store ?_ | with_reducible refine sg_back ?_ | fail))
          all_goals (refine sg_one 7 rfl (by kernel_rfl) rfl ?_)
          all_goals (repeat' (first | with_reducible (first | refine go1 ?_ | refine sct ?_ | refine scf ?_ | refine sgr ?_) | ((with_reducible refine sw_callf (rcText_ok p k r b o c bs sti hc hr hb hl h5.1) ?_); rintro _ _ ⟨rfl, rfl⟩) | ((with_reducible refine sw_callf (rcText_ok p k r b o c bs (nxt [] takeTxt bs sti).2 hc hr hb hl h8.1) ?_); rintro _ _ ⟨rfl, rfl⟩) | ((with_reducible refine sw_callf (rcNum_ok p k r b o c bs (nxt [] takeTxt bs (nxt [] takeTxt bs sti).2).2 hc hr hb hl h9.1) ?_); rintro _ _ ⟨rfl, rfl⟩) | with_reducible refine sw_buildSliceN [.string (strB (nxt [] takeTxt bs sti).1), .string (strB (nxt [] takeTxt bs (nxt [] takeTxt bs sti).2).1), .int .i64 (num bs (nxt [] takeTxt bs (nxt [] takeTxt bs sti).2).2).1] ⟨by omega, by omega, by omega⟩ (by kernel_rfl) fun b3 => ?_ | with_reducible refine sw_appendNV (spC li) [.string (strB (nxt [] takeTxt bs sti).1), .string (strB (nxt [] takeTxt bs (nxt [] takeTxt bs sti).2).1), .int .i64 (num bs (nxt [] takeTxt bs (nxt [] takeTxt bs sti).2).2).1] li.length q hq (sp_one _ _ _) rfl (by omega) ⟨rfl, by omega, by omega⟩ fun q2 hne hok => ?_ | with_reducible refine sw_store ?_ | with_reducible refine sg_back ?_ | fail))
          all_goals (first | refine sg_take 8 hcalm rfl (by kernel_rfl) (by kernel_rfl) (by kernel_rfl) (h := runop_buildR [.string (strB (nxt [] takeTxt bs sti).1), .string (strB (nxt [] takeTxt bs (nxt [] takeTxt bs sti).2).1), .int .i64 (num bs (nxt [] takeTxt bs (nxt [] takeTxt bs sti).2).2).1] (by kernel_rfl)) ?_ | refine sg_take 8 hcalm rfl (by kernel_rfl) (by kernel_rfl) (by kernel_rfl) ?_)
          all_goals (refine sg_one 9 rfl (by kernel_rfl) rfl ?_)
          all_goals (repeat' (first | with_reducible (first | refine go1 ?_ | refine sct ?_ | refine scf ?_ | refine sgr ?_) | ((with_reducible refine sw_callf (rcText_ok p k r b o c bs sti hc hr hb hl h5.1) ?_); rintro _ _ ⟨rfl, rfl⟩) | ((with_reducible refine sw_callf (rcText_ok p k r b o c bs (nxt [] takeTxt bs sti).2 hc hr hb hl h8.1) ?_); rintro _ _ ⟨rfl, rfl⟩) | ((with_reducible refine sw_callf (rcNum_ok p k r b o c bs (nxt [] takeTxt bs (nxt [] takeTxt bs sti).2).2 hc hr hb hl h9.1) ?_); rintro _ _ ⟨rfl, rfl⟩) | with_reducible refine sw_buildSliceN [.string (strB (nxt [] takeTxt bs sti).1), .string (strB (nxt [] takeTxt bs (nxt [] takeTxt bs sti).2).1), .int .i64 (num bs (nxt [] takeTxt bs (nxt [] takeTxt bs sti).2).2).1] ⟨by omega, by omega, by omega⟩ (by kernel_rfl) fun b3 => ?_ | with_reducible refine sw_appendNV (spC li) [.string (strB (nxt [] takeTxt bs sti).1), .string (strB (nxt [] takeTxt bs (nxt [] takeTxt bs sti).2).1), .int .i64 (num bs (nxt [] takeTxt bs (nxt [] takeTxt bs sti).2).2).1] li.length q hq (sp_one _ _ _) rfl (by omega) ⟨rfl, by omega, by omega⟩ fun q2 hne hok => ?_ | with_reducible refine sw_store ?_ | with_reducible refine sg_back ?_ | fail))
          all_goals (refine sg_one 10 rfl (by kernel_rfl) rfl ?_)
          all_goals (repeat' (first | with_reducible (first | refine go1 ?_ | refine sct ?_ | refine scf ?_ | refine sgr ?_) | ((with_reducible refine sw_callf (rcText_ok p k r b o c bs sti hc hr hb hl h5.1) ?_); rintro _ _ ⟨rfl, rfl⟩) | ((with_reducible refine sw_callf (rcText_ok p k r b o c bs (nxt [] takeTxt bs sti).2 hc hr hb hl h8.1) ?_); rintro _ _ ⟨rfl, rfl⟩) | ((with_reducible refine sw_callf (rcNum_ok p k r b o c bs (nxt [] takeTxt bs (nxt [] takeTxt bs sti).2).2 hc hr hb hl h9.1) ?_); rintro _ _ ⟨rfl, rfl⟩) | with_reducible refine sw_buildSliceN [.string (strB (nxt [] takeTxt bs sti).1), .string (strB (nxt [] takeTxt bs (nxt [] takeTxt bs sti).2).1), .int .i64 (num bs (nxt [] takeTxt bs (nxt [] takeTxt bs sti).2).2).1] ⟨by omega, by omega, by omega⟩ (by kernel_rfl) fun b3 => ?_ | with_reducible refine sw_appendNV (spC li) [.string (strB (nxt [] takeTxt bs sti).1), .string (strB (nxt [] takeTxt bs (nxt [] takeTxt bs sti).2).1), .int .i64 (num bs (nxt [] takeTxt bs (nxt [] takeTxt bs sti).2).2).1] li.length q hq (sp_one _ _ _) rfl (by omega) ⟨rfl, by omega, by omega⟩ fun q2 hne hok => ?_ | with_reducible refine sw_store ?_ | with_reducible refine sg_back ?_ | fail))
          all_goals (first | refine sg_take 11 hcalm rfl (by kernel_rfl) (by kernel_rfl) (by kernel_rfl) ?_)
          all_goals (refine sg_one 12 rfl (by kernel_rfl) rfl ?_)
          all_goals (repeat' (first | with_reducible (first | refine go1 ?_ | refine sct ?_ | refine scf ?_ | refine sgr ?_) | ((with_reducible refine sw_callf (rcText_ok p k r b o c bs sti hc hr hb hl h5.1) ?_); rintro _ _ ⟨rfl, rfl⟩) | ((with_reducible refine sw_callf (rcText_ok p k r b o c bs (nxt [] takeTxt bs sti).2 hc hr hb hl h8.1) ?_); rintro _ _ ⟨rfl, rfl⟩) | ((with_reducible refine sw_callf (rcNum_ok p k r b o c bs (nxt [] takeTxt bs (nxt [] takeTxt bs sti).2).2 hc hr hb hl h9.1) ?_); rintro _ _ ⟨rfl, rfl⟩) | with_reducible refine sw_buildSliceN [.string (strB (nxt [] takeTxt bs sti).1), .string (strB (nxt [] takeTxt bs (nxt [] takeTxt bs sti).2).1), .int .i64 (num bs (nxt [] takeTxt bs (nxt [] takeTxt bs sti).2).2).1] ⟨by omega, by omega, by omega⟩ (by kernel_rfl) fun b3 => ?_ | with_reducible refine sw_appendNV (spC li) [.string (strB (nxt [] takeTxt bs sti).1), .string (strB (nxt [] takeTxt bs (nxt [] takeTxt bs sti).2).1), .int .i64 (num bs (nxt [] takeTxt bs (nxt [] takeTxt bs sti).2).2).1] li.length q hq (sp_one _ _ _) rfl (by omega) ⟨rfl, by omega, by omega⟩ fun q2 hne hok => ?_ | with_reducible refine sw_store ?_ | with_reducible refine sg_back ?_ | fail))
          all_goals (refine sg_done (by kernel_rfl) rfl ?_)
        case' g3b =>
          all_goals (repeat' (first | with_reducible (first | refine go1 ?_ | refine sct ?_ | refine scf ?_ | refine sgr ?_) | ((with_reducible refine sw_callf (rcText_ok p k r b o c bs sti hc hr hb hl h5.1) ?_); rintro _ _ ⟨rfl, rfl⟩) | ((with_reducible refine sw_callf (rcText_ok p k r b o c bs (nxt [] takeTxt bs sti).2 hc hr hb hl h8.1) ?_); rintro _ _ ⟨rfl, rfl⟩) | ((with_reducible refine sw_callf (rcNum_ok p k r b o c bs (nxt [] takeTxt bs (nxt [] takeTxt bs sti).2).2 hc hr hb hl h9.1) ?_); rintro _ _ ⟨rfl, rfl⟩) | with_reducible refine sw_buildSliceN [.string (strB (nxt [] takeTxt bs sti).1), .string (strB (nxt [] takeTxt bs (nxt [] takeTxt bs sti).2).1), .int .i64 (num bs (nxt [] takeTxt bs (nxt [] takeTxt bs sti).2).2).1] ⟨by omega, by omega, by omega⟩ (by kernel_rfl) fun b3 => ?_ | with_reducible refine sw_appendNV (spC li) [.string (strB (nxt [] takeTxt bs sti).1), .string (strB (nxt [] takeTxt bs (nxt [] takeTxt bs sti).2).1), .int .i64 (num bs (nxt [] takeTxt bs (nxt [] takeTxt bs sti).2).2).1] li.length q hq (sp_one _ _ _) rfl (by omega) ⟨rfl, by omega, by omega⟩ fun q2 hne hok => ?_ | with_reducible refine sw_store ?_ | with_reducible refine sg_back ?_ | fail))
          all_goals (first | refine sg_take 8 hcalm rfl (by kernel_rfl) (by kernel_rfl) (by kernel_rfl) (h := runop_buildR [.string (strB (nxt [] takeTxt bs sti).1), .string (strB (nxt [] takeTxt bs (nxt [] takeTxt bs sti).2).1), .int .i64 (num bs (nxt [] takeTxt bs (nxt [] takeTxt bs sti).2).2).1] (by kernel_rfl)) ?_ | refine sg_take 8 hcalm rfl (by kernel_rfl) (by kernel_rfl) (by kernel_rfl) ?_)
          refine sg_two 1 9 rfl rfl (by kernel_rfl) rfl ?g4a ?g4b
          case' g4a =>
            all_goals (repeat' (first | with_reducible (first | refine go1 ?_ | refine sct ?_ | refine scf ?_ | refine sgr ?_) | ((with_reducible refine sw_callf (rcText_ok p k r b o c bs sti hc hr hb hl h5.1) ?_); rintro _ _ ⟨rfl, rfl⟩) | ((with_reducible refine sw_callf (rcText_ok p k r b o c bs (nxt [] takeTxt bs sti).2 hc hr hb hl h8.1) ?_); rintro _ _ ⟨rfl, rfl⟩) | ((with_reducible refine sw_callf (rcNum_ok p k r b o c bs (nxt [] takeTxt bs (nxt [] takeTxt bs sti).2).2 hc hr hb hl h9.1) ?_); rintro _ _ ⟨rfl, rfl⟩) | with_reducible refine sw_buildSliceN [.string (strB (nxt [] takeTxt bs sti).1), .string (strB (nxt [] takeTxt bs (nxt [] takeTxt bs sti).2).1), .int .i64 (num bs (nxt [] takeTxt bs (nxt [] takeTxt bs sti).2).2).1] ⟨by omega, by omega, by omega⟩ (by kernel_rfl) fun b3 => ?_ | with_reducible refine sw_appendNV (spC li) [.string (strB (nxt [] takeTxt bs sti).1), .string (strB (nxt [] takeTxt bs (nxt [] takeTxt bs sti).2).1), .int .i64 (num bs (nxt [] takeTxt bs (nxt [] takeTxt bs sti).2).2).1] li.length q hq (sp_one _ _ _) rfl (by omega) ⟨rfl, by omega, by omega⟩ fun q2 hne hok => ?_ | with_reducible refine sw_store ?_ | with_reducible refine sg_back ?_ | fail))
            all_goals (refine sg_one 9 rfl (by kernel_rfl) rfl ?_)
            all_goals (repeat' (first | with_reducible (first | refine go1 ?_ | refine sct ?_ | refine scf ?_ | refine sgr ?_) | ((with_reducible refine sw_callf (rcText_ok p k r b o c bs sti hc hr hb hl h5.1) ?_); rintro _ _ ⟨rfl, rfl⟩) | ((with_reducible refine sw_callf (rcText_ok p k r b o c bs (nxt [] takeTxt bs sti).2 hc hr hb hl h8.1) ?_); rintro _ _ ⟨rfl, rfl⟩) | ((with_reducible refine sw_callf (rcNum_ok p k r b o c bs (nxt [] takeTxt bs (nxt [] takeTxt bs sti).2).2 hc hr hb hl h9.1) ?_); rintro _ _ ⟨rfl, rfl⟩) | with_reducible refine sw_buildSliceN [.string (strB (nxt [] takeTxt bs sti).1), .string (strB (nxt [] takeTxt bs (nxt [] takeTxt bs sti).2).1), .int .i64 (num bs (nxt [] takeTxt bs (nxt [] takeTxt bs sti).2).2).1] ⟨by omega, by omega, by omega⟩ (by kernel_rfl) fun b3 => ?_ | with_reducible refine sw_appendNV (spC li) [.string (strB (nxt [] takeTxt bs sti).1), .string (strB (nxt [] takeTxt bs (nxt [] takeTxt bs sti).2).1), .int .i64 (num bs (nxt [] takeTxt bs (nxt [] takeTxt bs sti).2).2).1] li.length q hq (sp_one _ _ _) rfl (by omega) ⟨rfl, by omega, by omega⟩ fun q2 hne hok => ?_ | with_reducible refine sw_store ?_ | with_reducible refine sg_back ?_ | fail))
            all_goals (refine sg_one 10 rfl (by kernel_rfl) rfl ?_)
            all_goals (repeat' (first | with_reducible (first | refine go1 ?_ | refine sct ?_ | refine scf ?_ | refine sgr ?_) | ((with_reducible refine sw_callf (rcText_ok p k r b o c bs sti hc hr hb hl h5.1) ?_); rintro _ _ ⟨rfl, rfl⟩) | ((with_reducible refine sw_callf (rcText_ok p k r b o c bs (nxt [] takeTxt bs sti).2 hc hr hb hl h8.1) ?_); rintro _ _ ⟨rfl, rfl⟩) | ((with_reducible refine sw_callf (rcNum_ok p k r b o c bs (nxt [] takeTxt bs (nxt [] takeTxt bs sti).2).2 hc hr hb hl h9.1) ?_); rintro _ _ ⟨rfl, rfl⟩) | with_reducible refine sw_buildSliceN [.string (strB (nxt [] takeTxt bs sti).1), .string (strB (nxt [] takeTxt bs (nxt [] takeTxt bs sti).2).1), .int .i64 (num bs (nxt [] takeTxt bs (nxt [] takeTxt bs sti).2).2).1] ⟨by omega, by omega, by omega⟩ (by kernel_rfl) fun b3 => ?_ | with_reducible refine sw_appendNV (spC li) [.string (strB (nxt [] takeTxt bs sti).1), .string (strB (nxt [] takeTxt bs (nxt [] takeTxt bs sti).2).1), .int .i64 (num bs (nxt [] takeTxt bs (nxt [] takeTxt bs sti).2).2).1] li.length q hq (sp_one _ _ _) rfl (by omega) ⟨rfl, by omega, by omega⟩ fun q2 hne hok => ?_ | with_reducible refine sw_store ?_ | with_reducible refine sg_back ?_ | fail))
            all_goals (first | refine sg_take 11 hcalm rfl (by kernel_rfl) (by kernel_rfl) (by kernel_rfl) ?_)
            all_goals (refine sg_one 12 rfl (by kernel_rfl) rfl ?_)
            all_goals (repeat' (first | with_reducible (first | refine go1 ?_ | refine sct ?_ | refine scf ?_ | refine sgr ?_) | ((with_reducible refine sw_callf (rcText_ok p k r b o c bs sti hc hr hb hl h5.1) ?_); rintro _ _ ⟨rfl, rfl⟩) | ((with_reducible refine sw_callf (rcText_ok p k r b o c bs (nxt [] takeTxt bs sti).2 hc hr hb hl h8.1) ?_); rintro _ _ ⟨rfl, rfl⟩) | ((with_reducible refine sw_callf (rcNum_ok p k r b o c bs (nxt [] takeTxt bs (nxt [] takeTxt bs sti).2).2 hc hr hb hl h9.1) ?_); rintro _ _ ⟨rfl, rfl⟩) | with_reducible refine sw_buildSliceN [.string (strB (nxt [] takeTxt bs sti).1), .string (strB (nxt [] takeTxt bs (nxt [] takeTxt bs sti).2).1), .int .i64 (num bs (nxt [] takeTxt bs (nxt [] takeTxt bs sti).2).2).1] ⟨by omega, by omega, by omega⟩ (by kernel_rfl) fun b3 => ?_ | with_reducible refine sw_appendNV (spC li) [.string (strB (nxt [] takeTxt bs sti).1), .string (strB (nxt [] takeTxt bs (nxt [] takeTxt bs sti).2).1), .int .i64 (num bs (nxt [] takeTxt bs (nxt [] takeTxt bs sti).2).2).1] li.length q hq (sp_one _ _ _) rfl (by omega) ⟨rfl, by omega, by omega⟩ fun q2 hne hok => ?_ | with_reducible refine sw_store ?_ | with_reducible refine sg_back ?_ | fail))
            all_goals (refine sg_done (by kernel_rfl) rfl ?_)
          case' g4b =>
            all_goals (repeat' (first | with_reducible (first | refine go1 ?_ | refine sct ?_ | refine scf ?_ | refine sgr ?_) | ((with_reducible refine sw_callf (rcText_ok p k r b o c bs sti hc hr hb hl h5.1) ?_); rintro _ _ ⟨rfl, rfl⟩) | ((with_reducible refine sw_callf (rcText_ok p k r b o c bs (nxt [] takeTxt bs sti).2 hc hr hb hl h8.1) ?_); rintro _ _ ⟨rfl, rfl⟩) | ((with_reducible refine sw_callf (rcNum_ok p k r b o c bs (nxt [] takeTxt bs (nxt [] takeTxt bs sti).2).2 hc hr hb hl h9.1) ?_); rintro _ _ ⟨rfl, rfl⟩) | with_reducible refine sw_buildSliceN [.string (strB (nxt [] takeTxt bs sti).1), .string (strB (nxt [] takeTxt bs (nxt [] takeTxt bs sti).2).1), .int .i64 (num bs (nxt [] takeTxt bs (nxt [] takeTxt bs sti).2).2).1] ⟨by omega, by omega, by omega⟩ (by kernel_rfl) fun b3 => ?_ | with_reducible refine sw_appendNV (spC li) [.string (strB (nxt [] takeTxt bs sti).1), .string (strB (nxt [] takeTxt bs (nxt [] takeTxt bs sti).2).1), .int .i64 (num bs (nxt [] takeTxt bs (nxt [] takeTxt bs sti).2).2).1] li.length q hq (sp_one _ _ _) rfl (by omega) ⟨rfl, by omega, by omega⟩ fun q2 hne hok => ?_ | with_reducible refine sw_store ?_ | with_reducible refine sg_back ?_ | fail))
            all_goals (refine sg_one 1 rfl (by kernel_rfl) rfl ?_)
            all_goals (repeat' (first | with_reducible (first | refine go1 ?_ | refine sct ?_ | refine scf ?_ | refine sgr ?_) | ((with_reducible refine sw_callf (rcText_ok p k r b o c bs sti hc hr hb hl h5.1) ?_); rintro _ _ ⟨rfl, rfl⟩) | ((with_reducible refine sw_callf (rcText_ok p k r b o c bs (nxt [] takeTxt bs sti).2 hc hr hb hl h8.1) ?_); rintro _ _ ⟨rfl, rfl⟩) | ((with_reducible refine sw_callf (rcNum_ok p k r b o c bs (nxt [] takeTxt bs (nxt [] takeTxt bs sti).2).2 hc hr hb hl h9.1) ?_); rintro _ _ ⟨rfl, rfl⟩) | with_reducible refine sw_buildSliceN [.string (strB (nxt [] takeTxt bs sti).1), .string (strB (nxt [] takeTxt bs (nxt [] takeTxt bs sti).2).1), .int .i64 (num bs (nxt [] takeTxt bs (nxt [] takeTxt bs sti).2).2).1] ⟨by omega, by omega, by omega⟩ (by kernel_rfl) fun b3 => ?_ | with_reducible refine sw_appendNV (spC li) [.string (strB (nxt [] takeTxt bs sti).1), .string (strB (nxt [] takeTxt bs (nxt [] takeTxt bs sti).2).1), .int .i64 (num bs (nxt [] takeTxt bs (nxt [] takeTxt bs sti).2).2).1] li.length q hq (sp_one _ _ _) rfl (by omega) ⟨rfl, by omega, by omega⟩ fun q2 hne hok => ?_ | with_reducible refine sw_store ?_ | with_reducible refine sg_back ?_ | fail))
            all_goals (refine sg_one 10 rfl (by kernel_rfl) rfl ?_)
            all_goals (repeat' (first | with_reducible (first | refine go1 ?_ | refine sct ?_ | refine scf ?_ | refine sgr ?_) | ((with_reducible refine sw_callf (rcText_ok p k r b o c bs sti hc hr hb hl h5.1) ?_); rintro _ _ ⟨rfl, rfl⟩) | ((with_reducible refine sw_callf (rcText_ok p k r b o c bs (nxt [] takeTxt bs sti).2 hc hr hb hl h8.1) ?_); rintro _ _ ⟨rfl, rfl⟩) | ((with_reducible refine sw_callf (rcNum_ok p k r b o c bs (nxt [] takeTxt bs (nxt [] takeTxt bs sti).2).2 hc hr hb hl h9.1) ?_); rintro _ _ ⟨rfl, rfl⟩) | with_reducible refine sw_buildSliceN [.string (strB (nxt [] takeTxt bs sti).1), .string (strB (nxt [] takeTxt bs (nxt [] takeTxt bs sti).2).1), .int .i64 (num bs (nxt [] takeTxt bs (nxt [] takeTxt bs sti).2).2).1] ⟨by omega, by omega, by omega⟩ (by kernel_rfl) fun b3 => ?_ | with_reducible refine sw_appendNV (spC li) [.string (strB (nxt [] takeTxt bs sti).1), .string (strB (nxt [] takeTxt bs (nxt [] takeTxt bs sti).2).1), .int .i64 (num bs (nxt [] takeTxt bs (nxt [] takeTxt bs sti).2).2).1] li.length q hq (sp_one _ _ _) rfl (by omega) ⟨rfl, by omega, by omega⟩ fun q2 hne hok => ?_ | with_reducible refine sw_store ?_ | with_reducible refine sg_back ?_ | fail))
            all_goals (first | refine sg_take 11 hcalm rfl (by kernel_rfl) (by kernel_rfl) (by kernel_rfl) ?_)
            all_goals (refine sg_one 12 rfl (by kernel_rfl) rfl ?_)
            all_goals (repeat' (first | with_reducible (first | refine go1 ?_ | refine sct ?_ | refine scf ?_ | refine sgr ?_) | ((with_reducible refine sw_callf (rcText_ok p k r b o c bs sti hc hr hb hl h5.1) ?_); rintro _ _ ⟨rfl, rfl⟩) | ((with_reducible refine sw_callf (rcText_ok p k r b o c bs (nxt [] takeTxt bs sti).2 hc hr hb hl h8.1) ?_); rintro _ _ ⟨rfl, rfl⟩) | ((with_reducible refine sw_callf (rcNum_ok p k r b o c bs (nxt [] takeTxt bs (nxt [] takeTxt bs sti).2).2 hc hr hb hl h9.1) ?_); rintro _ _ ⟨rfl, rfl⟩) | with_reducible refine sw_buildSliceN [.string (strB (nxt [] takeTxt bs sti).1), .string (strB (nxt [] takeTxt bs (nxt [] takeTxt bs sti).2).1), .int .i64 (num bs (nxt [] takeTxt bs (nxt [] takeTxt bs sti).2).2).1] ⟨by omega, by omega, by omega⟩ (by kernel_rfl) fun b3 => ?_ | with_reducible refine sw_appendNV (spC li) [.string (strB (nxt [] takeTxt bs sti).1), .string (strB (nxt [] takeTxt bs (nxt [] takeTxt bs sti).2).1), .int .i64 (num bs (nxt [] takeTxt bs (nxt [] takeTxt bs sti).2).2).1] li.length q hq (sp_one _ _ _) rfl (by omega) ⟨rfl, by omega, by omega⟩ fun q2 hne hok => ?_ | with_reducible refine sw_store ?_ | with_reducible refine sg_back ?_ | fail))
            all_goals (refine sg_done (by kernel_rfl) rfl ?_)
    all_goals rw [hcs] at hok ⊢
    all_goals rw [hln] at hok ⊢
    all_goals rw [← hxe.2]
    all_goals (repeat' (first | with_reducible refine sw_in (by omega) ?_ | with_reducible (first | refine go1 ?_ | refine sct ?_ | refine scf ?_ | refine sgr ?_) | fail))
    all_goals refine sq_round ⟨(i + 1, q2), by simp only; omega, by simp only; rw [h7]; exact hok⟩ ?_ ?_ ?_
    all_goals try (show m.toNat - (i + 1) < m.toNat - i; omega)
    all_goals simp only [h7]
    all_goals first | ((repeat' (first | exact says_nil | refine says_cons rfl ?_ | refine says_cons (by simp) ?_)); done) | ((repeat' (first | with_reducible exact Ent.refl _ | with_reducible refine Ent.take_eq ?_ ?_ | rfl | with_reducible refine Ent.oR ?_ | with_reducible refine Ent.trans (oR.drop _ _ _) ?_ | with_reducible refine Ent.trans (Ent.drop _ _) ?_)); done)
  · have hz : i = m.toNat := by omega
    subst hz
    rw [hS] at hraw
    have hin : (takeCk bs) = if endE bs.length (⟨nu, la, li⟩ : Ck).chk sti ≠ 0 then (Ck.zero, endE bs.length (⟨nu, la, li⟩ : Ck).chk sti) else (⟨nu, la, li⟩, 0) := by
      unfold takeCk
      rw [hraw]
    rw [hin]
    have hsb : SpsB li := fun x hx => ⟨(h5.2.2 x hx).1, (h5.2.2 x hx).2.1⟩
    have hll : li.length ≤ 4611686018427387904 := by omega
    repeat' (first | with_reducible (first | refine go1 ?_ | refine sct ?_ | refine scf ?_ | refine sgr ?_) | fail)
    refine sw_build (ckV nu (nV li.length q) la) (by kernel_rfl) ?_
    repeat' (first | with_reducible (first | refine go1 ?_ | refine sct ?_ | refine scf ?_ | refine sgr ?_) | fail)
    cases q with
    | none =>
      have hl0 := (hq.2.1 rfl).2
      have hl1 : li = [] := List.length_eq_zero_iff.1 hl0
      subst hl1
      simp only [oR, SpG, nG, nV, List.length_nil]
      refine sw_call (rcCkEnds_ok p k r _ b o c bs.length sti (.slice none 0 0) ⟨nu, la, []⟩ rfl (RdS.nil _) hsb hll) ?_
      rintro _ _ ⟨rfl, rfl⟩
      repeat' (first | with_reducible (first | refine go1 ?_ | refine sct ?_ | refine scf ?_ | refine sgr ?_) | (with_reducible refine sc_cond (fun h => ?_) (fun h => ?_)) <;> (try (exfalso; first | contradiction | omega | exact h Iff.rfl)) | fail)
      · rw [if_pos h]
        refine sw_build (ckV 0 (.slice none 0 0) false) (by kernel_rfl) ?_
        repeat' (first | with_reducible (first | refine go1 ?_ | refine sct ?_ | refine scf ?_ | refine sgr ?_) | fail)
        refine sw_store_agg ?_
        repeat' (first | with_reducible (first | refine go1 ?_ | refine sct ?_ | refine scf ?_ | refine sgr ?_) | fail)
        refine sq_resAT Try.results32 (by first | exact .inl rfl | exact .inr rfl) rfl ?_
        refine ⟨_, ⟨none, ⟨rfl, fun _ => ⟨rfl, rfl⟩, fun b c t h => (by cases h)⟩, rfl, rfl⟩, ?_⟩
        show Ent _ ((k, r) :: F)
        repeat' (first | with_reducible exact Ent.refl _ | with_reducible refine Ent.take_eq ?_ ?_ | rfl | with_reducible refine Ent.oR ?_ | with_reducible refine Ent.trans (oR.drop _ _ _) ?_ | with_reducible refine Ent.trans (Ent.drop _ _) ?_)
      · rw [if_neg h]
        refine sw_store_agg ?_
        repeat' (first | with_reducible (first | refine go1 ?_ | refine sct ?_ | refine scf ?_ | refine sgr ?_) | fail)
        refine sq_resAT Try.results32 (by first | exact .inl rfl | exact .inr rfl) rfl ?_
        refine ⟨_, ⟨none, hq, rfl, rfl⟩, ?_⟩
        show Ent _ ((k, r) :: F)
        repeat' (first | with_reducible exact Ent.refl _ | with_reducible refine Ent.take_eq ?_ ?_ | rfl | with_reducible refine Ent.oR ?_ | with_reducible refine Ent.trans (oR.drop _ _ _) ?_ | with_reducible refine Ent.trans (Ent.drop _ _) ?_)
    | some y =>
      obtain ⟨b9, c9, t9⟩ := y
      have hcap := (hq.2.2 b9 c9 t9 rfl).1
      simp only [oR, SpG, nG, nV]
      refine sw_call (rcCkEnds_ok p b9 (pts b9 (.cells (spC li ++ t9).toArray 50 (0, 0))) _ b o c bs.length sti (.slice (some ⟨b9, 0, none⟩) li.length c9) ⟨nu, la, li⟩ rfl (RdS.own hcap) hsb hll) ?_
      rintro _ _ ⟨rfl, rfl⟩
      repeat' (first | with_reducible (first | refine go1 ?_ | refine sct ?_ | refine scf ?_ | refine sgr ?_) | (with_reducible refine sc_cond (fun h => ?_) (fun h => ?_)) <;> (try (exfalso; first | contradiction | omega | exact h Iff.rfl)) | fail)
      · rw [if_pos h]
        refine sw_build (ckV 0 (.slice none 0 0) false) (by kernel_rfl) ?_
        repeat' (first | with_reducible (first | refine go1 ?_ | refine sct ?_ | refine scf ?_ | refine sgr ?_) | fail)
        refine sw_store_agg ?_
        repeat' (first | with_reducible (first | refine go1 ?_ | refine sct ?_ | refine scf ?_ | refine sgr ?_) | fail)
        refine sq_resAT Try.results32 (by first | exact .inl rfl | exact .inr rfl) rfl ?_
        refine ⟨_, ⟨none, ⟨rfl, fun _ => ⟨rfl, rfl⟩, fun b c t h => (by cases h)⟩, rfl, rfl⟩, ?_⟩
        show Ent _ ((k, r) :: F)
        repeat' (first | with_reducible exact Ent.refl _ | with_reducible refine Ent.take_eq ?_ ?_ | rfl | with_reducible refine Ent.oR ?_ | with_reducible refine Ent.trans (oR.drop _ _ _) ?_ | with_reducible refine Ent.trans (Ent.drop _ _) ?_)
      · rw [if_neg h]
        refine sw_store_agg ?_
        repeat' (first | with_reducible (first | refine go1 ?_ | refine sct ?_ | refine scf ?_ | refine sgr ?_) | fail)
        refine sq_resAT Try.results32 (by first | exact .inl rfl | exact .inr rfl) rfl ?_
        refine ⟨_, ⟨some (b9, c9, t9), hq, rfl, rfl⟩, ?_⟩
        show Ent _ ((b9, pts b9 (.cells (spC li ++ t9).toArray 50 (0, 0))) :: (k, r) :: F)
        repeat' (first | with_reducible exact Ent.refl _ | with_reducible refine Ent.take_eq ?_ ?_ | rfl | with_reducible refine Ent.oR ?_ | with_reducible refine Ent.trans (oR.drop _ _ _) ?_ | with_reducible refine Ent.trans (Ent.drop _ _) ?_)
end Go.Gsl
