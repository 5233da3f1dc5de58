/- Append from any memory that is read; contracts over two kinds of memory. -/
import Derived.Test.YtjfieigjicbldaaDoorGVG
import Derived.Test.YtjfieigjicbldaaDoorGNE
import Derived.Shelf.Strings.SplitCore
import Derived.Shelf.Strings.Search3
import Derived.Shelf.Strings.Count
import Derived.Lib.SplitLaws
namespace Go.Gsl
set_option linter.unusedVariables false
open Go.Proofs

section
variable {P : Program} {ops : List Oper} {Q : Cont} {n : Nat} {w0 : World} {rest : List Oper} {e : Env} {Rs F : List Res} {ty : TypeId}
/-- append(s, ys...), an element having several cells, s being nil or a row of one's own -/
theorem sw_appendNRd {d : Nat} {t el : TypeId} {nb sz : Nat} {x y : Operand} {z : Value} {a : Option Addr} {m' c' : Nat} {pos : String} {after : Array Edge} (cells src : List Value) (m : Nat) (o : Option (Nat × Nat × List Value)) (ho : NOk sz cells m o)
    [hx : Ev n e x (nV m o)] [hy : Ev n e y (.slice a m' c')] [he : Elem P t el sz nb z] [tk : TakeO Rs (nG el cells) o F]
    (hsrc : ∀ w, Sat w0 w Rs → ∀ j v, src[j]? = some v → ∃ ad, a = some ad ∧ w.cell? (ad.add j) = some v)
    (h1 : ∀ v ∈ src, v.oneCell' = true) (hzc : z.cells.size = sz) (hsz : 0 < sz)
    (h : src.length = m' * sz ∧ m + m' ≤ 9223372036854775807 ∧ (m + m') * nb ≤ 140737488355328)
    (k : ∀ o', NOk sz (cells ++ src) (m + m') o' → SW P ops Q n w0 rest ((d, nV (m + m') o') :: e) (oR (nG el (cells ++ src)) F o')) :
    SW P ops Q n w0 ({ dst := some d, op := .call { callee := .builtin .append, args := [x, y].toArray, argTypes := [t, t].toArray }, type := ty, pos := pos, after := after, guard := none } :: rest) e Rs := by
  obtain ⟨h2, h3, h4⟩ := h
  obtain ⟨q1, q2, q3⟩ := ho
  cases o with
  | none =>
    obtain ⟨rfl, rfl⟩ := q2 rfl
    have hxn : Ev n e x (.slice none 0 0) := hx
    rcases Nat.eq_zero_or_pos m' with h0 | hp
    · subst h0
      have hs : src = [] := List.length_eq_zero_iff.1 (by omega)
      subst hs
      refine sw_append_00 (hx := hxn) (hy := hy) (el := el) (fun w hw => ?_)
      exact k none ⟨by simp, fun _ => ⟨rfl, rfl⟩, fun b c t hh => by cases hh⟩ w (hw.ent tk.ent)
    · refine sw_appendN_nil (src := src) (hx := hxn) (hy := hy) (el := el) hsrc hzc hsz ⟨by omega, by omega, by omega, by rw [Nat.zero_add] at h4; omega⟩ fun b' r c2 hc2 hl2 => ?_
      have hk := k (some (b', c2, r)) ⟨by rw [List.nil_append, Nat.zero_add]; omega, fun h => (by cases h), fun b c t hh => by cases hh; rw [Nat.zero_add, List.nil_append]; exact ⟨hc2, hl2⟩⟩
      rw [Nat.zero_add] at hk
      exact sw_ent (Ent.cons _ tk.ent) hk
  | some bt =>
    obtain ⟨b, c, r0⟩ := bt
    obtain ⟨q4, q5⟩ := q3 b c r0 rfl
    have hxs : Ev n e x (.slice (some ⟨b, 0, none⟩) m c) := hx
    have tk' : Take Rs b (pts b (.cells (cells ++ r0).toArray el (0, 0))) F := ⟨tk.ent, tk.back⟩
    refine sw_appendN (src := src) (hx := hxs) (hy := hy) (el := el) (tk := tk') hsrc h1 hzc hsz ⟨q4, q5, by omega, h3, h4⟩ fun b' r c2 hc2 hl2 => ?_
    rw [List.take_left' q1] at hl2 ⊢
    exact k (some (b', c2, r)) ⟨by rw [List.length_append, q1, h2, Nat.add_mul], fun h => (by cases h), fun b c t hh => by cases hh; exact ⟨hc2, hl2⟩⟩
/-- append(nil, ys...) -/
theorem sw_appendN0 {d : Nat} {t el : TypeId} {nb sz : Nat} {x y : Operand} {z : Value} {a : Option Addr} {m' c' : Nat} {pos : String} {after : Array Edge} (src : List Value)
    [hx : Ev n e x (.slice none 0 0)] [hy : Ev n e y (.slice a m' c')] [he : Elem P t el sz nb z]
    (hsrc : ∀ w, Sat w0 w Rs → ∀ j v, src[j]? = some v → ∃ ad, a = some ad ∧ w.cell? (ad.add j) = some v)
    (h1 : ∀ v ∈ src, v.oneCell' = true) (hzc : z.cells.size = sz) (hsz : 0 < sz)
    (h : src.length = m' * sz ∧ m' ≤ 9223372036854775807 ∧ m' * nb ≤ 140737488355328)
    (k : ∀ o', NOk sz src m' o' → SW P ops Q n w0 rest ((d, nV m' o') :: e) (oR (nG el src) Rs o')) :
    SW P ops Q n w0 ({ dst := some d, op := .call { callee := .builtin .append, args := [x, y].toArray, argTypes := [t, t].toArray }, type := ty, pos := pos, after := after, guard := none } :: rest) e Rs := by
  have hx' : Ev n e x (nV 0 none) := hx
  refine sw_appendNRd (hx := hx') (hy := hy) (el := el) (F := Rs) [] src 0 none ⟨by simp, fun _ => ⟨rfl, rfl⟩, fun b c t h => by cases h⟩ (tk := ⟨Ent.refl _, Ent.refl _⟩) hsrc h1 hzc hsz ⟨h.1, by omega, by rw [Nat.zero_add]; exact h.2.2⟩ fun o' ho' => ?_
  rw [Nat.zero_add, List.nil_append] at *
  exact k o' ho'
theorem Reads.src {r : HProp} {a : Option Addr} {xs : List Value} {k : Nat} (hr : Reads r a xs) [t : Take Rs k r F] : ∀ w, Sat w0 w Rs → ∀ j v, xs[j]? = some v → ∃ ad, a = some ad ∧ w.cell? (ad.add j) = some v := fun w hw => Reads.sat (F := F) (t := t) hr hw
end
/-- two kinds of memory, combined for one call -/
theorem Spec.two {P : Program} {f : FuncId} {args : List Value} {K k1 k2 : Nat} {r1 r2 : HProp} {c : Value} (h : Spec P f args [K] [hall [(k1, r1), (k2, r2)]] fun F v Rs' => v = c ∧ Rs' = (K, hall [(k1, r1), (k2, r2)]) :: F) :
    Spec P f args [k1, k2] [r1, r2] fun F v Rs' => v = c ∧ Rs' = (k1, r1) :: (k2, r2) :: F := by
  intro w0 F w hw
  have hw' : Sat w0 w ((k1, r1) :: (k2, r2) :: F) := hw
  refine (h w0 F w (hw'.ent (Ent.hall_close K [(k1, r1), (k2, r2)] F))).mono ?_
  rintro x w' ⟨v, Rs', hx, ⟨hv, rfl⟩, hs⟩
  exact ⟨v, _, hx, ⟨hv, rfl⟩, hs.ent (Ent.hall_open K [(k1, r1), (k2, r2)] F)⟩
theorem parse_some {s : Bs} {co : Option (List Int)} {acts : List Act} (h : parseS s = .ok ⟨co, acts⟩) : ∃ c, co = some c := by
  unfold parseS at h
  cases hp : parseF (s.length + 1) ⟨none, []⟩ 0 s with
  | error e => rw [hp] at h; cases h
  | ok q =>
    obtain ⟨r1, n⟩ := q
    rw [hp] at h
    simp only at h
    split at h
    · cases h
    · rename_i hn
      simp only [Except.ok.injEq] at h
      subst h
      cases co with
      | none => exact absurd rfl hn
      | some c => exact ⟨c, rfl⟩
end Go.Gsl

namespace Go.Gsl
set_option linter.unusedVariables false
open Go.Proofs Go.Shelf

shelf_lay Lays.n221 Nm 221 at Tryd as Tryd.laysSplit

theorem idx_cut (c : UInt8) : ∀ s : Bs, Lib.indexByte s c = if c ∈ s then ((cutW c s).length : Int) else -1
  | [] => rfl
  | b :: l => by
    have ih := idx_cut c l
    unfold Lib.indexByte
    by_cases h : b = c
    · subst h
      rw [if_pos (by simp), if_pos (by simp)]
      unfold cutW; rw [List.takeWhile_cons, if_neg (by simp)]; rfl
    · rw [if_neg (by simpa using h), ih]
      have hw : cutW c (b :: l) = b :: cutW c l := by unfold cutW; rw [List.takeWhile_cons, if_pos (by simpa using h)]
      by_cases h2 : c ∈ l
      · have h3 : ¬ (((cutW c l).length : Int) == -1) = true := by
          intro g
          have := beq_iff_eq.1 g
          omega
        have h4 : c ∈ b :: l := by simp [h2]
        rw [if_pos h2, if_neg h3, if_pos h4, hw]
        simp
      · have h4 : ¬ c ∈ b :: l := by
          intro g
          rcases List.mem_cons.1 g with g | g
          · exact h g.symm
          · exact h2 g
        rw [if_neg h2, if_neg h4]
        rfl
theorem splitK_eq : ∀ (k : Nat) (s : Bs), s.count 10 = k → Lib.splitK [10] 0 k s = splitL s
  | 0, s, h => by
    have : (10 : UInt8) ∉ s := List.count_eq_zero.1 h
    rw [splitL_one s this]; rfl
  | k + 1, s, h => by
    have hm : (10 : UInt8) ∈ s := List.count_pos_iff.1 (by omega)
    obtain ⟨h1, h2⟩ := cut_parts hm
    have hi : Lib.index s [10] = ((cutW 10 s).length : Int) := by rw [Lib.index_one, idx_cut, if_pos hm]
    rw [Lib.splitK, hi, if_neg (by
      intro g
      have := beq_iff_eq.1 g
      omega), splitL_cut hm]
    have e1 : s.take (((cutW 10 s).length : Int).toNat + 0) = cutW 10 s := by
      rw [Int.toNat_natCast, Nat.add_zero]
      generalize cutW 10 s = X at *
      rw [h1, List.take_left' rfl]
    have e2 : s.drop (((cutW 10 s).length : Int).toNat + [(10 : UInt8)].length) = cutR 10 s := by
      rw [Int.toNat_natCast]
      generalize cutW 10 s = X at *
      generalize cutR 10 s = Y at *
      have h5 : s = (X ++ [10]) ++ Y := by rw [h1]; simp
      rw [h5, List.drop_left' (by simp)]
    have hc : (cutR 10 s).count 10 = k := by
      have : s.count 10 = (cutW 10 s).count 10 + ((cutR 10 s).count 10 + 1) := by
        conv => lhs; rw [h1]
        rw [List.count_append, List.count_cons_self]
      rw [List.count_eq_zero.2 h2] at this
      omega
    rw [e1, e2, splitK_eq k _ hc]
theorem splitB_eq (s : Bs) : Lib.splitB (sB [10]) 0 (s.count 10) (sB s) = (splitL s).map sB := by
  have h := Lib.splitB_data (sB [10]) 0 (s.count 10) (sB s)
  have e : Lib.splitK (sB [10]).data.toList 0 (s.count 10) (sB s).data.toList = splitL s := splitK_eq _ s rfl
  rw [e] at h
  rw [← h, List.map_map]
  conv => lhs; rw [← List.map_id (Lib.splitB (sB [10]) 0 (s.count 10) (sB s))]
  apply List.map_congr_left
  intro x _
  rfl
theorem splitL_len (s : Bs) : (splitL s).length = s.count 10 + 1 := by
  have h := congrArg List.length (splitB_eq s)
  rw [List.length_map] at h
  rw [← h]
  exact Lib.splitB_all (sB [10]) (by decide) 0 _ (sB s) (by
    show Lib.count s [10] = _
    rw [Lib.count_one])
theorem genSplit_ok (s : Bs) (hs : s.length ≤ 1073741824) : Spec Tryd.prog 36 [.string (sB s), .string (sB [10]), .int .i64 0, .int .i64 (-1)] [] []
    fun F v Rs' => ∃ b, v = .slice (some ⟨b, 0, none⟩) (splitL s).length (splitL s).length ∧ Rs' = (b, pts b (.cells (strC (splitL s)).toArray 9 (0, 0))) :: F := by
  intro w0 F w hw
  have hw' : Sat w0 w F := hw
  have hsz : (sB s).size = s.length := sB_size s
  have hcnt : Lib.countB (sB s) (sB [10]) = s.count 10 := by
    show Lib.count s [10] = _
    rw [Lib.count_one]
  have hcl : s.count 10 ≤ s.length := List.count_le_length
  have hI : ∀ (x : ByteArray) (c : Array Value), x.size ≤ (sB s).size → Calls Tryd.prog (Tryd.laysSplit_ren.f 143) #[.string x, .string (sB [10])] (w.alloc (.cells c (Tryd.laysSplit_ren.t 9))) fun e w' => e = .returned (.int .i64 (Lib.indexB x (sB [10]))) ∧ w' = w.alloc (.cells c (Tryd.laysSplit_ren.t 9)) := by
    intro x c _
    refine (Any.strings_Index_one { Tryd.laysSplit with } x 10 _).mono fun e w' ⟨he, hw⟩ => ⟨?_, hw⟩
    rw [he]
    show _ = Ending.returned (Value.int .i64 (Lib.index x.data.toList [10]))
    rw [Lib.index_one]
  have hC : Calls Tryd.prog (Tryd.laysSplit_ren.f 138) #[.string (sB s), .string (sB [10])] w fun e w' => e = .returned (.int .i64 (Lib.countB (sB s) (sB [10]))) ∧ w' = w := by
    refine (Any.strings_Count_one { Tryd.laysSplit with } (sB s) 10 w).mono fun e w' ⟨he, hw⟩ => ⟨?_, hw⟩
    rw [he, hcnt]
    rfl
  have key := Any.strings_genSplit_core Tryd.laysSplit (by kernel_rfl) (sB s) (sB [10]) 0 (-1) (s.count 10 + 1) w (by omega) (by decide) (Nat.zero_le _) hI hC (by decide) (by decide) (by rw [if_pos (by decide), hcnt]; omega)
  rw [Nat.add_sub_cancel, splitB_eq, List.length_map] at key
  refine Calls.mono key ?_
  rintro e w' ⟨rfl, rfl⟩
  have hfull : Lib.cellsOf ((splitL s).map sB) (s.count 10 + 1) = (strC (splitL s)).toArray := by
    have := Lib.cellsOf_full ((splitL s).map sB)
    rw [List.length_map, splitL_len] at this
    rw [this]
    unfold strC
    rw [List.map_map]
    rfl
  rw [hfull]
  refine ⟨_, _, rfl, ⟨w.heap.size, by rw [splitL_len], rfl⟩, ?_⟩
  exact hw'.new (.cells (strC (splitL s)).toArray 9 (0, 0))
theorem split_ok (s : Bs) (hs : s.length ≤ 1073741824) : Spec Tryd.prog 17 [.string (sB s), .string (sB [10])] [] []
    fun F v Rs' => ∃ b, v = .slice (some ⟨b, 0, none⟩) (splitL s).length (splitL s).length ∧ Rs' = (b, pts b (.cells (strC (splitL s)).toArray 9 (0, 0))) :: F := by
  refine spec_of Tryd.func17 rfl Tryd.ntmps17 rfl ?_
  intro w0 F
  repeat' (first | with_reducible (first | refine go1 ?_ | refine sct ?_ | refine scf ?_ | refine sgr ?_) | ((with_reducible refine sw_callf (genSplit_ok s hs) ?_); rintro _ _ ⟨b, rfl, rfl⟩) | fail)
  refine sq_ret1 Tryd.results17 ?_
  exact ⟨_, ⟨_, rfl, rfl⟩, Ent.refl _⟩
end Go.Gsl

namespace Go.Gsl
set_option linter.unusedVariables false
open Go.Proofs

theorem outL_len3 : ∀ (ls : List Bs) (more : List Bool), (outL ls more).length ≤ 3 * ls.length
  | [], _ => by simp [outL]
  | a :: ls, [] => by
    have := outL_len3 ls []
    simp only [outL, List.length_cons]; omega
  | a :: ls, b :: more => by
    have := outL_len3 ls more
    cases b <;> simp [outL] <;> omega
theorem mem_sum : ∀ {xs : List Bs} {l : Bs}, l ∈ xs → l.length + 1 ≤ (xs.map fun x => x.length + 1).sum
  | x :: xs, l, h => by
    simp only [List.map_cons, List.sum_cons]
    rcases List.mem_cons.1 h with rfl | h
    · omega
    · have := mem_sum h; omega
theorem outL_step0 {ls : List Bs} {more : List Bool} {i : Nat} {l : Bs} (h : ls[i]? = some l) (hm : more.length ≤ i) : outL (ls.take (i + 1)) more = outL (ls.take i) more ++ [l] := by
  have hi : i < ls.length := (List.getElem?_eq_some_iff.1 h).1
  rw [List.take_add_one, h, outL_app, List.length_take, Nat.min_eq_left (by omega), List.drop_eq_nil_of_le (by omega)]
  rfl
theorem outL_step1 {ls : List Bs} {more : List Bool} {i : Nat} {l : Bs} {b : Bool} (h : ls[i]? = some l) (hm : more[i]? = some b) : outL (ls.take (i + 1)) more = outL (ls.take i) more ++ (if b then [[35, 32, 34], [32, 32], [32, 32] ++ l ++ [32]] else [l]) := by
  have hi : i < ls.length := (List.getElem?_eq_some_iff.1 h).1
  obtain ⟨hj, hb⟩ := List.getElem?_eq_some_iff.1 hm
  rw [List.take_add_one, h, outL_app, List.length_take, Nat.min_eq_left (by omega), List.drop_eq_getElem_cons hj, hb]
  show _ ++ ((if b then _ else _) ++ outL [] _) = _
  rw [show outL [] (more.drop (i + 1)) = [] from rfl, List.append_nil]
def atI (ls : List Bs) (more : List Bool) (n : Int) (i : Nat) : Int := if 1 ≤ n ∧ n ≤ (i : Int) then ((outL (ls.take n.toNat) more).length : Int) else 0
theorem atI_hit (ls : List Bs) (more : List Bool) (n : Int) (i : Nat) (h : (i : Int) + 1 = n) : atI ls more n (i + 1) = ((outL (ls.take (i + 1)) more).length : Int) := by
  unfold atI
  rw [if_pos (by omega), show n.toNat = i + 1 by omega]
theorem atI_miss (ls : List Bs) (more : List Bool) (n : Int) (i : Nat) (h : ¬ (i : Int) + 1 = n) : atI ls more n (i + 1) = atI ls more n i := by
  unfold atI
  by_cases h1 : 1 ≤ n ∧ n ≤ (i : Int)
  · rw [if_pos h1, if_pos (by omega)]
  · rw [if_neg h1, if_neg (by omega)]
theorem one_str (xs : List Bs) : ∀ v ∈ strC xs, v.oneCell' = true := by
  intro v hv
  unfold strC at hv
  obtain ⟨x, _, rfl⟩ := List.mem_map.1 hv
  rfl
theorem app21 (A : List Value) (a b c : Value) : A ++ [a, b, c] = A ++ [a, b] ++ [c] := by simp
set_option maxHeartbeats 8000000 in
theorem l26Loose_ok (W : World) (hT : Tabs Tryd.prog W) (text : Bs) (ht : text.length ≤ 1048576) (mv : Value) (more : List Bool) (hM : RdK (ro W) mv more) (hml : more.length ≤ 1048576) :
    Spec Tryd.prog 5 [.string (sB text), mv] [0] [ro W] fun F v Rs' => v = .bool true ∧ Rs' = (0, ro W) :: F := by
  have hB := begun_ok W hT
  have hSp := split_ok text (by omega)
  have hlo := loose text more
  have hsum := splitL_sum text
  have hos := outL_sum (splitL text) more
  have hjn := join_len 10 (outL (splitL text) more)
  have hlen := len_sum (splitL text)
  obtain ⟨ls, hls⟩ : ∃ ls, splitL text = ls := ⟨_, rfl⟩
  rw [hls] at hSp hlo hsum hos hjn hlen
  have hlne : ls ≠ [] := by rw [← hls]; exact splitL_ne _
  have hone : One mv := by obtain ⟨a, c, rfl, _⟩ := hM; infer_instance
  obtain ⟨ma, mc, rfl, hma, hmr⟩ := hM
  refine spec_of Tryd.func5 rfl Tryd.ntmps5 rfl ?_
  intro w0 F
  cases hp : parseS text with
  | error q =>
    obtain ⟨er, k⟩ := q
    have hPE := ParseE_ok W hT text (by omega) hp
    have her := parse_er hp
    have hkp := parse_pos hp
    obtain ⟨m, hp2, hm⟩ := hlo.2 er k hp
    have hPE2 := ParseE_ok W hT _ (by omega) hp2
    have hSm := sSame_ok 0 (ro W) 0 0 0 0 0 0 0 0 0 0 0 0 0 0 (.slice none 0 0) (.slice none 0 0) [] [] (RdAs.nil _) (RdAs.nil _) (by simp)
    rw [decide_eq_true rfl, decide_eq_true rfl, Bool.and_self] at hSm
    repeat' (first | with_reducible (first | refine go1 ?_ | refine sct ?_ | refine scf ?_ | refine sgr ?_) | ((with_reducible refine sw_callf hB ?_); rintro _ _ ⟨rfl, rfl⟩) | ((with_reducible refine sw_callf hPE ?_); rintro _ _ ⟨rfl, rfl⟩) | with_reducible refine sw_alloc fun b5 => ?_ | with_reducible refine sw_store_agg ?_ | ((with_reducible refine sw_callf hSp ?_); rintro _ _ ⟨b8, rfl, rfl⟩) | with_reducible refine sw_guard_skip_u ?_ | (with_reducible refine sc_cond (fun h => ?_) (fun h => ?_)) <;> (try (exfalso; first | contradiction | omega | exact h Iff.rfl)) | (with_reducible refine sw_guard_split (fun h => ?_) (fun h => ?_)) <;> (try (exfalso; first | contradiction | omega | exact h Iff.rfl)) | (with_reducible refine sw_pick (fun h => ?_) (fun h => ?_)) <;> (try (exfalso; first | contradiction | omega | exact h Iff.rfl)) | fail)
    refine sc_loop (α := { x : Nat × Option (Nat × Nat × List Value) // x.1 ≤ ls.length ∧ NOk 1 (strC (outL (ls.take x.1) more)) (outL (ls.take x.1) more).length x.2 })
      (fun x => [(1, .slice ma more.length mc), (5, .pointer (some ⟨b5, 0, none⟩)), (6, .int .i64 (k)), (7, .int .i64 (er)), (9, nV (outL (ls.take x.1.1) more).length x.1.2), (10, .int .i64 (atI ls more (k) x.1.1)), (26, .slice (some ⟨b8, 0, none⟩) ls.length ls.length), (27, .int .i64 (ls.length : Int)), (28, .int .i64 (x.1.1 : Int))])
      (fun x => oR (nG 9 (strC (outL (ls.take x.1.1) more))) ((b8, pts b8 (.cells (strC ls).toArray 9 (0, 0))) :: (b5, pts b5 (.cells zS.toArray 26 (0, 0))) :: (0, ro W) :: F) x.1.2) (fun x => ls.length - x.1.1) ⟨(0, none), Nat.zero_le _, ⟨rfl, fun _ => ⟨rfl, rfl⟩, fun b c t h => by cases h⟩⟩ ?_ ?_ ?_
    · have ha0 : atI ls more (k) 0 = 0 := by unfold atI; rw [if_neg (by omega)]
      show says _ [(1, .slice ma more.length mc), (5, .pointer (some ⟨b5, 0, none⟩)), (6, .int .i64 (k)), (7, .int .i64 (er)), (9, .slice none 0 0), (10, .int .i64 (atI ls more (k) 0)), (26, .slice (some ⟨b8, 0, none⟩) ls.length ls.length), (27, .int .i64 (ls.length : Int)), (28, .int .i64 0)]
      rw [ha0]
      repeat' (first | exact says_nil | refine says_cons rfl ?_ | refine says_cons (by simp) ?_)
    · show Ent _ ((b8, pts b8 (.cells (strC ls).toArray 9 (0, 0))) :: (b5, pts b5 (.cells zS.toArray 26 (0, 0))) :: (0, ro W) :: F)
      repeat' (first | with_reducible exact Ent.refl _ | with_reducible refine Ent.take_eq ?_ ?_ | rfl | with_reducible refine Ent.trans (Ent.drop _ _) ?_)
    rintro ⟨⟨i, o⟩, hi, hN⟩ e
    dsimp only at hi hN
    simp only [List.cons_append, List.nil_append]
    have hol := outL_len3 (ls.take i) more
    rw [List.length_take, Nat.min_eq_left hi] at hol
    by_cases hil : i < ls.length
    · obtain ⟨l, hl⟩ : ∃ l, ls[i]? = some l := ⟨_, List.getElem?_eq_getElem hil⟩
      have hlm := mem_sum (List.mem_of_getElem? hl)
      have hlc : (strC ls)[0 + i * 1]? = some (.string (sB l)) := by
        rw [Nat.zero_add, Nat.mul_one]; unfold strC; rw [List.getElem?_map, hl]; rfl
      have hs0 := outL_step0 (more := more) hl
      have hs1 := fun b => outL_step1 (more := more) (b := b) hl
      have hm' := atI_miss ls more (k) i
      have hh := atI_hit ls more (k) i
      by_cases hiM : i < more.length
      · obtain ⟨u, hu⟩ : ∃ u, more[i]? = some u := ⟨_, List.getElem?_eq_getElem hiM⟩
        have hb1 := boolC_at hu
        obtain ⟨bm, om, hma2⟩ := hma (by omega)
        cases u with
        | false =>
          have hY : outL (ls.take (i + 1)) more = outL (ls.take i) more ++ [l] := hs1 false hu
          subst hma2
          repeat' (first | with_reducible refine sw_in (by omega) ?_ | with_reducible (first | refine go1 ?_ | refine sct ?_ | refine scf ?_ | refine sgr ?_) | with_reducible refine sw_indexN i ⟨rfl, by omega⟩ ?_ | with_reducible refine sw_loadAt (.string (sB l)) hlc ?_ | with_reducible refine sw_op (h := runop_load_rdS 0 i (.bool false) hmr hb1 (by omega)) ?_ | with_reducible refine sw_guard_skip_u ?_ | (with_reducible refine sc_cond (fun h => ?_) (fun h => ?_)) <;> (try (exfalso; first | contradiction | omega | exact h Iff.rfl)) | (with_reducible refine sw_guard_split (fun h => ?_) (fun h => ?_)) <;> (try (exfalso; first | contradiction | omega | exact h Iff.rfl)) | (with_reducible refine sw_pick (fun h => ?_) (fun h => ?_)) <;> (try (exfalso; first | contradiction | omega | exact h Iff.rfl)) | fail)
          refine sw_build1 fun b7 => ?_
          refine sw_appendNRd (sz := 1) (strC (outL (ls.take i) more)) [.string (sB l)] (outL (ls.take i) more).length o hN src_pts0 (str_one _) (by kernel_rfl) (by omega) ⟨rfl, by omega, by omega⟩ fun o2 ho2 => ?_
          have hYl : (outL (ls.take (i + 1)) more).length = (outL (ls.take i) more).length + 1 := by rw [hY, List.length_append]; rfl
          have hYc : strC (outL (ls.take (i + 1)) more) = strC (outL (ls.take i) more) ++ [.string (sB l)] := by rw [hY]; unfold strC; rw [List.map_append]; rfl
          repeat' (first | with_reducible refine sw_in (by omega) ?_ | with_reducible (first | refine go1 ?_ | refine sct ?_ | refine scf ?_ | refine sgr ?_) | (with_reducible refine sc_cond (fun h => ?_) (fun h => ?_)) <;> (try (exfalso; first | contradiction | omega | exact h Iff.rfl)) | fail)
          · refine sw_op (h := runop_lenNV o2 (fun h => (ho2.2.1 h).2)) ?_
            repeat' (first | with_reducible refine sw_in (by omega) ?_ | with_reducible (first | refine go1 ?_ | refine sct ?_ | refine scf ?_ | refine sgr ?_) | fail)
            refine sq_round ⟨(i + 1, o2), by dsimp only; omega, by dsimp only; rw [hYl, hYc]; exact ho2⟩ (by show ls.length - (i + 1) < ls.length - i; omega) ?_ ?_
            · show says _ [(1, .slice (some ⟨bm, om, none⟩) more.length mc), (5, .pointer (some ⟨b5, 0, none⟩)), (6, .int .i64 (k)), (7, .int .i64 (er)), (9, nV (outL (ls.take (i + 1)) more).length o2), (10, .int .i64 (atI ls more (k) (i + 1))), (26, .slice (some ⟨b8, 0, none⟩) ls.length ls.length), (27, .int .i64 (ls.length : Int)), (28, .int .i64 ((i + 1 : Nat) : Int))]
              rw [hh (by assumption), hYl]
              repeat' (first | exact says_nil | refine says_cons rfl ?_ | refine says_cons (by simp) ?_)
            · show Ent _ (oR (nG 9 (strC (outL (ls.take (i + 1)) more))) ((b8, pts b8 (.cells (strC ls).toArray 9 (0, 0))) :: (b5, pts b5 (.cells zS.toArray 26 (0, 0))) :: (0, ro W) :: F) o2)
              rw [hYc]
              refine oR.ent ?_ o2
              repeat' (first | with_reducible exact Ent.refl _ | with_reducible refine Ent.take_eq ?_ ?_ | rfl | with_reducible refine Ent.trans (Ent.drop _ _) ?_)
          · refine sq_round ⟨(i + 1, o2), by dsimp only; omega, by dsimp only; rw [hYl, hYc]; exact ho2⟩ (by show ls.length - (i + 1) < ls.length - i; omega) ?_ ?_
            · show says _ [(1, .slice (some ⟨bm, om, none⟩) more.length mc), (5, .pointer (some ⟨b5, 0, none⟩)), (6, .int .i64 (k)), (7, .int .i64 (er)), (9, nV (outL (ls.take (i + 1)) more).length o2), (10, .int .i64 (atI ls more (k) (i + 1))), (26, .slice (some ⟨b8, 0, none⟩) ls.length ls.length), (27, .int .i64 (ls.length : Int)), (28, .int .i64 ((i + 1 : Nat) : Int))]
              rw [hm' (by assumption), hYl]
              repeat' (first | exact says_nil | refine says_cons rfl ?_ | refine says_cons (by simp) ?_)
            · show Ent _ (oR (nG 9 (strC (outL (ls.take (i + 1)) more))) ((b8, pts b8 (.cells (strC ls).toArray 9 (0, 0))) :: (b5, pts b5 (.cells zS.toArray 26 (0, 0))) :: (0, ro W) :: F) o2)
              rw [hYc]
              refine oR.ent ?_ o2
              repeat' (first | with_reducible exact Ent.refl _ | with_reducible refine Ent.take_eq ?_ ?_ | rfl | with_reducible refine Ent.trans (Ent.drop _ _) ?_)
        | true =>
          have hY : outL (ls.take (i + 1)) more = outL (ls.take i) more ++ [[35, 32, 34], [32, 32], [32, 32] ++ l ++ [32]] := hs1 true hu
          subst hma2
          repeat' (first | with_reducible refine sw_in (by omega) ?_ | with_reducible (first | refine go1 ?_ | refine sct ?_ | refine scf ?_ | refine sgr ?_) | with_reducible refine sw_indexN i ⟨rfl, by omega⟩ ?_ | with_reducible refine sw_loadAt (.string (sB l)) hlc ?_ | with_reducible refine sw_op (h := runop_load_rdS 0 i (.bool true) hmr hb1 (by omega)) ?_ | with_reducible refine sw_guard_skip_u ?_ | (with_reducible refine sc_cond (fun h => ?_) (fun h => ?_)) <;> (try (exfalso; first | contradiction | omega | exact h Iff.rfl)) | (with_reducible refine sw_guard_split (fun h => ?_) (fun h => ?_)) <;> (try (exfalso; first | contradiction | omega | exact h Iff.rfl)) | (with_reducible refine sw_pick (fun h => ?_) (fun h => ?_)) <;> (try (exfalso; first | contradiction | omega | exact h Iff.rfl)) | fail)
          refine sw_buildSlice [.string (sB [35, 32, 34]), .string (sB [32, 32])] (by omega) (by kernel_rfl) fun b7 => ?_
          refine sw_appendNRd (sz := 1) (strC (outL (ls.take i) more)) [.string (sB [35, 32, 34]), .string (sB [32, 32])] (outL (ls.take i) more).length o hN src_pts0 (by intro v hv; simp only [List.mem_cons, List.not_mem_nil, or_false] at hv; rcases hv with rfl | rfl <;> rfl) (by kernel_rfl) (by omega) ⟨rfl, by omega, by omega⟩ fun o2 ho2 => ?_
          repeat' (first | with_reducible (first | refine go1 ?_ | refine sct ?_ | refine scf ?_ | refine sgr ?_) | with_reducible refine sw_op (h := runop_sadd (by simp only [List.length_append, List.length_cons, List.length_nil]; omega)) ?_ | fail)
          refine sw_build1 fun b9 => ?_
          refine sw_appendNRd (sz := 1) (strC (outL (ls.take i) more) ++ [.string (sB [35, 32, 34]), .string (sB [32, 32])]) [.string (sB ([32, 32] ++ l ++ [32]))] ((outL (ls.take i) more).length + 2) o2 ho2 src_pts0 (str_one _) (by kernel_rfl) (by omega) ⟨rfl, by omega, by omega⟩ fun o3 ho3 => ?_
          have hYl : (outL (ls.take (i + 1)) more).length = (outL (ls.take i) more).length + 2 + 1 := by rw [hY, List.length_append]; rfl
          have hYc : strC (outL (ls.take (i + 1)) more) = strC (outL (ls.take i) more) ++ [.string (sB [35, 32, 34]), .string (sB [32, 32])] ++ [.string (sB ([32, 32] ++ l ++ [32]))] := by rw [hY]; unfold strC; rw [List.map_append]; exact app21 _ _ _ _
          repeat' (first | with_reducible refine sw_in (by omega) ?_ | with_reducible (first | refine go1 ?_ | refine sct ?_ | refine scf ?_ | refine sgr ?_) | (with_reducible refine sc_cond (fun h => ?_) (fun h => ?_)) <;> (try (exfalso; first | contradiction | omega | exact h Iff.rfl)) | fail)
          · refine sw_op (h := runop_lenNV o3 (fun h => (ho3.2.1 h).2)) ?_
            repeat' (first | with_reducible refine sw_in (by omega) ?_ | with_reducible (first | refine go1 ?_ | refine sct ?_ | refine scf ?_ | refine sgr ?_) | fail)
            refine sq_round ⟨(i + 1, o3), by dsimp only; omega, by dsimp only; rw [hYl, hYc]; exact ho3⟩ (by show ls.length - (i + 1) < ls.length - i; omega) ?_ ?_
            · show says _ [(1, .slice (some ⟨bm, om, none⟩) more.length mc), (5, .pointer (some ⟨b5, 0, none⟩)), (6, .int .i64 (k)), (7, .int .i64 (er)), (9, nV (outL (ls.take (i + 1)) more).length o3), (10, .int .i64 (atI ls more (k) (i + 1))), (26, .slice (some ⟨b8, 0, none⟩) ls.length ls.length), (27, .int .i64 (ls.length : Int)), (28, .int .i64 ((i + 1 : Nat) : Int))]
              rw [hh (by assumption), hYl]
              repeat' (first | exact says_nil | refine says_cons rfl ?_ | refine says_cons (by simp) ?_)
            · show Ent _ (oR (nG 9 (strC (outL (ls.take (i + 1)) more))) ((b8, pts b8 (.cells (strC ls).toArray 9 (0, 0))) :: (b5, pts b5 (.cells zS.toArray 26 (0, 0))) :: (0, ro W) :: F) o3)
              rw [hYc]
              refine oR.ent ?_ o3
              repeat' (first | with_reducible exact Ent.refl _ | with_reducible refine Ent.take_eq ?_ ?_ | rfl | with_reducible refine Ent.trans (Ent.drop _ _) ?_)
          · refine sq_round ⟨(i + 1, o3), by dsimp only; omega, by dsimp only; rw [hYl, hYc]; exact ho3⟩ (by show ls.length - (i + 1) < ls.length - i; omega) ?_ ?_
            · show says _ [(1, .slice (some ⟨bm, om, none⟩) more.length mc), (5, .pointer (some ⟨b5, 0, none⟩)), (6, .int .i64 (k)), (7, .int .i64 (er)), (9, nV (outL (ls.take (i + 1)) more).length o3), (10, .int .i64 (atI ls more (k) (i + 1))), (26, .slice (some ⟨b8, 0, none⟩) ls.length ls.length), (27, .int .i64 (ls.length : Int)), (28, .int .i64 ((i + 1 : Nat) : Int))]
              rw [hm' (by assumption), hYl]
              repeat' (first | exact says_nil | refine says_cons rfl ?_ | refine says_cons (by simp) ?_)
            · show Ent _ (oR (nG 9 (strC (outL (ls.take (i + 1)) more))) ((b8, pts b8 (.cells (strC ls).toArray 9 (0, 0))) :: (b5, pts b5 (.cells zS.toArray 26 (0, 0))) :: (0, ro W) :: F) o3)
              rw [hYc]
              refine oR.ent ?_ o3
              repeat' (first | with_reducible exact Ent.refl _ | with_reducible refine Ent.take_eq ?_ ?_ | rfl | with_reducible refine Ent.trans (Ent.drop _ _) ?_)
      · have hY := hs0 (by omega)
        repeat' (first | with_reducible refine sw_in (by omega) ?_ | with_reducible (first | refine go1 ?_ | refine sct ?_ | refine scf ?_ | refine sgr ?_) | with_reducible refine sw_indexN i ⟨rfl, by omega⟩ ?_ | with_reducible refine sw_loadAt (.string (sB l)) hlc ?_ | with_reducible refine sw_guard_skip_u ?_ | (with_reducible refine sc_cond (fun h => ?_) (fun h => ?_)) <;> (try (exfalso; first | contradiction | omega | exact h Iff.rfl)) | (with_reducible refine sw_guard_split (fun h => ?_) (fun h => ?_)) <;> (try (exfalso; first | contradiction | omega | exact h Iff.rfl)) | (with_reducible refine sw_pick (fun h => ?_) (fun h => ?_)) <;> (try (exfalso; first | contradiction | omega | exact h Iff.rfl)) | fail)
        refine sw_build1 fun b7 => ?_
        refine sw_appendNRd (sz := 1) (strC (outL (ls.take i) more)) [.string (sB l)] (outL (ls.take i) more).length o hN src_pts0 (str_one _) (by kernel_rfl) (by omega) ⟨rfl, by omega, by omega⟩ fun o2 ho2 => ?_
        have hYl : (outL (ls.take (i + 1)) more).length = (outL (ls.take i) more).length + 1 := by rw [hY, List.length_append]; rfl
        have hYc : strC (outL (ls.take (i + 1)) more) = strC (outL (ls.take i) more) ++ [.string (sB l)] := by rw [hY]; unfold strC; rw [List.map_append]; rfl
        repeat' (first | with_reducible refine sw_in (by omega) ?_ | with_reducible (first | refine go1 ?_ | refine sct ?_ | refine scf ?_ | refine sgr ?_) | (with_reducible refine sc_cond (fun h => ?_) (fun h => ?_)) <;> (try (exfalso; first | contradiction | omega | exact h Iff.rfl)) | fail)
        · refine sw_op (h := runop_lenNV o2 (fun h => (ho2.2.1 h).2)) ?_
          repeat' (first | with_reducible refine sw_in (by omega) ?_ | with_reducible (first | refine go1 ?_ | refine sct ?_ | refine scf ?_ | refine sgr ?_) | fail)
          refine sq_round ⟨(i + 1, o2), by dsimp only; omega, by dsimp only; rw [hYl, hYc]; exact ho2⟩ (by show ls.length - (i + 1) < ls.length - i; omega) ?_ ?_
          · show says _ [(1, .slice ma more.length mc), (5, .pointer (some ⟨b5, 0, none⟩)), (6, .int .i64 (k)), (7, .int .i64 (er)), (9, nV (outL (ls.take (i + 1)) more).length o2), (10, .int .i64 (atI ls more (k) (i + 1))), (26, .slice (some ⟨b8, 0, none⟩) ls.length ls.length), (27, .int .i64 (ls.length : Int)), (28, .int .i64 ((i + 1 : Nat) : Int))]
            rw [hh (by assumption), hYl]
            repeat' (first | exact says_nil | refine says_cons rfl ?_ | refine says_cons (by simp) ?_)
          · show Ent _ (oR (nG 9 (strC (outL (ls.take (i + 1)) more))) ((b8, pts b8 (.cells (strC ls).toArray 9 (0, 0))) :: (b5, pts b5 (.cells zS.toArray 26 (0, 0))) :: (0, ro W) :: F) o2)
            rw [hYc]
            refine oR.ent ?_ o2
            repeat' (first | with_reducible exact Ent.refl _ | with_reducible refine Ent.take_eq ?_ ?_ | rfl | with_reducible refine Ent.trans (Ent.drop _ _) ?_)
        · refine sq_round ⟨(i + 1, o2), by dsimp only; omega, by dsimp only; rw [hYl, hYc]; exact ho2⟩ (by show ls.length - (i + 1) < ls.length - i; omega) ?_ ?_
          · show says _ [(1, .slice ma more.length mc), (5, .pointer (some ⟨b5, 0, none⟩)), (6, .int .i64 (k)), (7, .int .i64 (er)), (9, nV (outL (ls.take (i + 1)) more).length o2), (10, .int .i64 (atI ls more (k) (i + 1))), (26, .slice (some ⟨b8, 0, none⟩) ls.length ls.length), (27, .int .i64 (ls.length : Int)), (28, .int .i64 ((i + 1 : Nat) : Int))]
            rw [hm' (by assumption), hYl]
            repeat' (first | exact says_nil | refine says_cons rfl ?_ | refine says_cons (by simp) ?_)
          · show Ent _ (oR (nG 9 (strC (outL (ls.take (i + 1)) more))) ((b8, pts b8 (.cells (strC ls).toArray 9 (0, 0))) :: (b5, pts b5 (.cells zS.toArray 26 (0, 0))) :: (0, ro W) :: F) o2)
            rw [hYc]
            refine oR.ent ?_ o2
            repeat' (first | with_reducible exact Ent.refl _ | with_reducible refine Ent.take_eq ?_ ?_ | rfl | with_reducible refine Ent.trans (Ent.drop _ _) ?_)
    have hie : i = ls.length := by omega
    subst hie
    have hN' := hN
    rw [List.take_length] at hN'
    obtain ⟨b9, c9, t9, rfl⟩ : ∃ b9 c9 t9, o = some (b9, c9, t9) := by
      cases o with
      | none => exact absurd (List.length_eq_zero_iff.1 (hN'.2.1 rfl).2) (outL_ne hlne)
      | some q => exact ⟨q.1, q.2.1, q.2.2, rfl⟩
    have hol3 := outL_len3 ls more
    have hJn := joinR_ok b9 _ _ (outL ls more) 10 (RdT.of_n hN' b9 c9 t9 rfl) (by omega) (by omega)
    rw [nG_some]
    repeat' (first | with_reducible (first | refine go1 ?_ | refine sct ?_ | refine scf ?_ | refine sgr ?_) | (with_reducible refine sc_cond (fun h => ?_) (fun h => ?_)) <;> (try (exfalso; first | contradiction | omega | exact h Iff.rfl)) | fail)
    rw [List.take_length]
    repeat' (first | with_reducible (first | refine go1 ?_ | refine sct ?_ | refine scf ?_ | refine sgr ?_) | ((with_reducible refine sw_callf hJn ?_); rintro _ _ ⟨rfl, rfl⟩) | ((with_reducible refine sw_callf hPE2 ?_); rintro _ _ ⟨rfl, rfl⟩) | ((with_reducible refine sw_callf hSm ?_); rintro _ _ ⟨rfl, rfl⟩) | with_reducible refine sw_alloc fun b13 => ?_ | with_reducible refine sw_store_agg ?_ | with_reducible refine sw_guard_skip_u ?_ | (with_reducible refine sc_cond (fun h => ?_) (fun h => ?_)) <;> (try (exfalso; first | contradiction | omega | exact h Iff.rfl)) | (with_reducible refine sw_guard_split (fun h => ?_) (fun h => ?_)) <;> (try (exfalso; first | contradiction | omega | exact h Iff.rfl)) | (with_reducible refine sw_pick (fun h => ?_) (fun h => ?_)) <;> (try (exfalso; first | contradiction | omega | exact h Iff.rfl)) | fail)
    all_goals (refine sq_ret1 Tryd.results5 ?_)
    all_goals have hm2 : m = atI ls more k ls.length ∨ er = 263 ∧ k ≤ m := hm
    · refine ⟨_, ⟨rfl, rfl⟩, ?_⟩
      repeat' (first | with_reducible exact Ent.refl _ | with_reducible refine Ent.take_eq ?_ ?_ | rfl | with_reducible refine Ent.trans (Ent.drop _ _) ?_)
    · have hkm : k ≤ m := by
        rcases hm2 with g | g
        · exact absurd g (by assumption)
        · exact g.2
      refine ⟨_, ⟨by rw [decide_eq_true hkm], rfl⟩, ?_⟩
      repeat' (first | with_reducible exact Ent.refl _ | with_reducible refine Ent.take_eq ?_ ?_ | rfl | with_reducible refine Ent.trans (Ent.drop _ _) ?_)
    · exfalso
      rcases hm2 with g | g
      · exact absurd g (by assumption)
      · exact absurd g.1 (by assumption)
  | ok sc =>
    obtain ⟨co, acts⟩ := sc
    have hg := parse_good hp
    obtain ⟨cc, rfl⟩ : ∃ cc, co = some cc := parse_some hp
    obtain ⟨hc7, hcr⟩ := hg.c cc rfl
    obtain ⟨n0, n1, n2, n3, n4, n5, n6, rfl⟩ : ∃ n0 n1 n2 n3 n4 n5 n6, cc = [n0, n1, n2, n3, n4, n5, n6] := by
      match cc, hc7 with
      | [a, b, c, d, e, f, g], _ => exact ⟨a, b, c, d, e, f, g, rfl⟩
    have hgl := hg.l
    simp only at hgl
    obtain ⟨z, hP1⟩ : ∃ z : Int, Spec Tryd.prog 9 [.string (sB text)] [0] [ro W] fun F v Rs' => ∃ va r, RdAs r va acts ∧ One va ∧ v = .tuple #[.agg ([.int .i64 n0, .int .i64 n1, .int .i64 n2, .int .i64 n3, .int .i64 n4, .int .i64 n5, .int .i64 n6, va] : List Value).toArray, .int .i64 z, .int .i64 0] ∧ Rs' = (0, ro W) :: (7050, r) :: F := ⟨0, Parse_ok W hT 7050 text (by omega) hp⟩
    have hP2 := Parse_ok W hT 7051 _ (by omega) (hlo.1 _ hp)
    have hSm := fun va va' r r' (h1 : RdAs r va acts) (h2 : RdAs r' va' acts) => Spec.two (sSame_ok 7053 (hall [(7050, r), (7051, r')]) n0 n1 n2 n3 n4 n5 n6 n0 n1 n2 n3 n4 n5 n6 va va' acts acts (RdAs.comb1 h1) (RdAs.comb2 h2) (by omega))
    rw [decide_eq_true rfl, decide_eq_true rfl] at hSm
    clear hg hcr hlo
    repeat' (first | with_reducible (first | refine go1 ?_ | refine sct ?_ | refine scf ?_ | refine sgr ?_) | ((with_reducible refine sw_callf hB ?_); rintro _ _ ⟨rfl, rfl⟩) | ((with_reducible refine sw_callf hP1 ?_); rintro _ _ ⟨va1, ra1, hra1, hone1, rfl, rfl⟩) | with_reducible refine sw_alloc fun b5 => ?_ | with_reducible refine sw_store_agg ?_ | ((with_reducible refine sw_callf hSp ?_); rintro _ _ ⟨b8, rfl, rfl⟩) | with_reducible refine sw_guard_skip_u ?_ | (with_reducible refine sc_cond (fun h => ?_) (fun h => ?_)) <;> (try (exfalso; first | contradiction | omega | exact h Iff.rfl)) | (with_reducible refine sw_guard_split (fun h => ?_) (fun h => ?_)) <;> (try (exfalso; first | contradiction | omega | exact h Iff.rfl)) | (with_reducible refine sw_pick (fun h => ?_) (fun h => ?_)) <;> (try (exfalso; first | contradiction | omega | exact h Iff.rfl)) | fail)
    refine sc_loop (α := { x : Nat × Option (Nat × Nat × List Value) // x.1 ≤ ls.length ∧ NOk 1 (strC (outL (ls.take x.1) more)) (outL (ls.take x.1) more).length x.2 })
      (fun x => [(1, .slice ma more.length mc), (5, .pointer (some ⟨b5, 0, none⟩)), (6, .int .i64 (z)), (7, .int .i64 (0)), (9, nV (outL (ls.take x.1.1) more).length x.1.2), (10, .int .i64 (atI ls more (z) x.1.1)), (26, .slice (some ⟨b8, 0, none⟩) ls.length ls.length), (27, .int .i64 (ls.length : Int)), (28, .int .i64 (x.1.1 : Int))])
      (fun x => oR (nG 9 (strC (outL (ls.take x.1.1) more))) ((b8, pts b8 (.cells (strC ls).toArray 9 (0, 0))) :: (b5, pts b5 (.cells ([.int .i64 n0, .int .i64 n1, .int .i64 n2, .int .i64 n3, .int .i64 n4, .int .i64 n5, .int .i64 n6, va1] : List Value).toArray 26 (0, 0))) :: (7050, ra1) :: (0, ro W) :: F) x.1.2) (fun x => ls.length - x.1.1) ⟨(0, none), Nat.zero_le _, ⟨rfl, fun _ => ⟨rfl, rfl⟩, fun b c t h => by cases h⟩⟩ ?_ ?_ ?_
    · have ha0 : atI ls more (z) 0 = 0 := by unfold atI; rw [if_neg (by omega)]
      show says _ [(1, .slice ma more.length mc), (5, .pointer (some ⟨b5, 0, none⟩)), (6, .int .i64 (z)), (7, .int .i64 (0)), (9, .slice none 0 0), (10, .int .i64 (atI ls more (z) 0)), (26, .slice (some ⟨b8, 0, none⟩) ls.length ls.length), (27, .int .i64 (ls.length : Int)), (28, .int .i64 0)]
      rw [ha0]
      repeat' (first | exact says_nil | refine says_cons rfl ?_ | refine says_cons (by simp) ?_)
    · show Ent _ ((b8, pts b8 (.cells (strC ls).toArray 9 (0, 0))) :: (b5, pts b5 (.cells ([.int .i64 n0, .int .i64 n1, .int .i64 n2, .int .i64 n3, .int .i64 n4, .int .i64 n5, .int .i64 n6, va1] : List Value).toArray 26 (0, 0))) :: (7050, ra1) :: (0, ro W) :: F)
      repeat' (first | with_reducible exact Ent.refl _ | with_reducible refine Ent.take_eq ?_ ?_ | rfl | with_reducible refine Ent.trans (Ent.drop _ _) ?_)
    rintro ⟨⟨i, o⟩, hi, hN⟩ e
    dsimp only at hi hN
    simp only [List.cons_append, List.nil_append]
    have hol := outL_len3 (ls.take i) more
    rw [List.length_take, Nat.min_eq_left hi] at hol
    by_cases hil : i < ls.length
    · obtain ⟨l, hl⟩ : ∃ l, ls[i]? = some l := ⟨_, List.getElem?_eq_getElem hil⟩
      have hlm := mem_sum (List.mem_of_getElem? hl)
      have hlc : (strC ls)[0 + i * 1]? = some (.string (sB l)) := by
        rw [Nat.zero_add, Nat.mul_one]; unfold strC; rw [List.getElem?_map, hl]; rfl
      have hs0 := outL_step0 (more := more) hl
      have hs1 := fun b => outL_step1 (more := more) (b := b) hl
      have hm' := atI_miss ls more (z) i
      have hh := atI_hit ls more (z) i
      by_cases hiM : i < more.length
      · obtain ⟨u, hu⟩ : ∃ u, more[i]? = some u := ⟨_, List.getElem?_eq_getElem hiM⟩
        have hb1 := boolC_at hu
        obtain ⟨bm, om, hma2⟩ := hma (by omega)
        cases u with
        | false =>
          have hY : outL (ls.take (i + 1)) more = outL (ls.take i) more ++ [l] := hs1 false hu
          subst hma2
          repeat' (first | with_reducible refine sw_in (by omega) ?_ | with_reducible (first | refine go1 ?_ | refine sct ?_ | refine scf ?_ | refine sgr ?_) | with_reducible refine sw_indexN i ⟨rfl, by omega⟩ ?_ | with_reducible refine sw_loadAt (.string (sB l)) hlc ?_ | with_reducible refine sw_op (h := runop_load_rdS 0 i (.bool false) hmr hb1 (by omega)) ?_ | with_reducible refine sw_guard_skip_u ?_ | (with_reducible refine sc_cond (fun h => ?_) (fun h => ?_)) <;> (try (exfalso; first | contradiction | omega | exact h Iff.rfl)) | (with_reducible refine sw_guard_split (fun h => ?_) (fun h => ?_)) <;> (try (exfalso; first | contradiction | omega | exact h Iff.rfl)) | (with_reducible refine sw_pick (fun h => ?_) (fun h => ?_)) <;> (try (exfalso; first | contradiction | omega | exact h Iff.rfl)) | fail)
          refine sw_build1 fun b7 => ?_
          refine sw_appendNRd (sz := 1) (strC (outL (ls.take i) more)) [.string (sB l)] (outL (ls.take i) more).length o hN src_pts0 (str_one _) (by kernel_rfl) (by omega) ⟨rfl, by omega, by omega⟩ fun o2 ho2 => ?_
          have hYl : (outL (ls.take (i + 1)) more).length = (outL (ls.take i) more).length + 1 := by rw [hY, List.length_append]; rfl
          have hYc : strC (outL (ls.take (i + 1)) more) = strC (outL (ls.take i) more) ++ [.string (sB l)] := by rw [hY]; unfold strC; rw [List.map_append]; rfl
          repeat' (first | with_reducible refine sw_in (by omega) ?_ | with_reducible (first | refine go1 ?_ | refine sct ?_ | refine scf ?_ | refine sgr ?_) | (with_reducible refine sc_cond (fun h => ?_) (fun h => ?_)) <;> (try (exfalso; first | contradiction | omega | exact h Iff.rfl)) | fail)
          · refine sw_op (h := runop_lenNV o2 (fun h => (ho2.2.1 h).2)) ?_
            repeat' (first | with_reducible refine sw_in (by omega) ?_ | with_reducible (first | refine go1 ?_ | refine sct ?_ | refine scf ?_ | refine sgr ?_) | fail)
            refine sq_round ⟨(i + 1, o2), by dsimp only; omega, by dsimp only; rw [hYl, hYc]; exact ho2⟩ (by show ls.length - (i + 1) < ls.length - i; omega) ?_ ?_
            · show says _ [(1, .slice (some ⟨bm, om, none⟩) more.length mc), (5, .pointer (some ⟨b5, 0, none⟩)), (6, .int .i64 (z)), (7, .int .i64 (0)), (9, nV (outL (ls.take (i + 1)) more).length o2), (10, .int .i64 (atI ls more (z) (i + 1))), (26, .slice (some ⟨b8, 0, none⟩) ls.length ls.length), (27, .int .i64 (ls.length : Int)), (28, .int .i64 ((i + 1 : Nat) : Int))]
              rw [hh (by assumption), hYl]
              repeat' (first | exact says_nil | refine says_cons rfl ?_ | refine says_cons (by simp) ?_)
            · show Ent _ (oR (nG 9 (strC (outL (ls.take (i + 1)) more))) ((b8, pts b8 (.cells (strC ls).toArray 9 (0, 0))) :: (b5, pts b5 (.cells ([.int .i64 n0, .int .i64 n1, .int .i64 n2, .int .i64 n3, .int .i64 n4, .int .i64 n5, .int .i64 n6, va1] : List Value).toArray 26 (0, 0))) :: (7050, ra1) :: (0, ro W) :: F) o2)
              rw [hYc]
              refine oR.ent ?_ o2
              repeat' (first | with_reducible exact Ent.refl _ | with_reducible refine Ent.take_eq ?_ ?_ | rfl | with_reducible refine Ent.trans (Ent.drop _ _) ?_)
          · refine sq_round ⟨(i + 1, o2), by dsimp only; omega, by dsimp only; rw [hYl, hYc]; exact ho2⟩ (by show ls.length - (i + 1) < ls.length - i; omega) ?_ ?_
            · show says _ [(1, .slice (some ⟨bm, om, none⟩) more.length mc), (5, .pointer (some ⟨b5, 0, none⟩)), (6, .int .i64 (z)), (7, .int .i64 (0)), (9, nV (outL (ls.take (i + 1)) more).length o2), (10, .int .i64 (atI ls more (z) (i + 1))), (26, .slice (some ⟨b8, 0, none⟩) ls.length ls.length), (27, .int .i64 (ls.length : Int)), (28, .int .i64 ((i + 1 : Nat) : Int))]
              rw [hm' (by assumption), hYl]
              repeat' (first | exact says_nil | refine says_cons rfl ?_ | refine says_cons (by simp) ?_)
            · show Ent _ (oR (nG 9 (strC (outL (ls.take (i + 1)) more))) ((b8, pts b8 (.cells (strC ls).toArray 9 (0, 0))) :: (b5, pts b5 (.cells ([.int .i64 n0, .int .i64 n1, .int .i64 n2, .int .i64 n3, .int .i64 n4, .int .i64 n5, .int .i64 n6, va1] : List Value).toArray 26 (0, 0))) :: (7050, ra1) :: (0, ro W) :: F) o2)
              rw [hYc]
              refine oR.ent ?_ o2
              repeat' (first | with_reducible exact Ent.refl _ | with_reducible refine Ent.take_eq ?_ ?_ | rfl | with_reducible refine Ent.trans (Ent.drop _ _) ?_)
        | true =>
          have hY : outL (ls.take (i + 1)) more = outL (ls.take i) more ++ [[35, 32, 34], [32, 32], [32, 32] ++ l ++ [32]] := hs1 true hu
          subst hma2
          repeat' (first | with_reducible refine sw_in (by omega) ?_ | with_reducible (first | refine go1 ?_ | refine sct ?_ | refine scf ?_ | refine sgr ?_) | with_reducible refine sw_indexN i ⟨rfl, by omega⟩ ?_ | with_reducible refine sw_loadAt (.string (sB l)) hlc ?_ | with_reducible refine sw_op (h := runop_load_rdS 0 i (.bool true) hmr hb1 (by omega)) ?_ | with_reducible refine sw_guard_skip_u ?_ | (with_reducible refine sc_cond (fun h => ?_) (fun h => ?_)) <;> (try (exfalso; first | contradiction | omega | exact h Iff.rfl)) | (with_reducible refine sw_guard_split (fun h => ?_) (fun h => ?_)) <;> (try (exfalso; first | contradiction | omega | exact h Iff.rfl)) | (with_reducible refine sw_pick (fun h => ?_) (fun h => ?_)) <;> (try (exfalso; first | contradiction | omega | exact h Iff.rfl)) | fail)
          refine sw_buildSlice [.string (sB [35, 32, 34]), .string (sB [32, 32])] (by omega) (by kernel_rfl) fun b7 => ?_
          refine sw_appendNRd (sz := 1) (strC (outL (ls.take i) more)) [.string (sB [35, 32, 34]), .string (sB [32, 32])] (outL (ls.take i) more).length o hN src_pts0 (by intro v hv; simp only [List.mem_cons, List.not_mem_nil, or_false] at hv; rcases hv with rfl | rfl <;> rfl) (by kernel_rfl) (by omega) ⟨rfl, by omega, by omega⟩ fun o2 ho2 => ?_
          repeat' (first | with_reducible (first | refine go1 ?_ | refine sct ?_ | refine scf ?_ | refine sgr ?_) | with_reducible refine sw_op (h := runop_sadd (by simp only [List.length_append, List.length_cons, List.length_nil]; omega)) ?_ | fail)
          refine sw_build1 fun b9 => ?_
          refine sw_appendNRd (sz := 1) (strC (outL (ls.take i) more) ++ [.string (sB [35, 32, 34]), .string (sB [32, 32])]) [.string (sB ([32, 32] ++ l ++ [32]))] ((outL (ls.take i) more).length + 2) o2 ho2 src_pts0 (str_one _) (by kernel_rfl) (by omega) ⟨rfl, by omega, by omega⟩ fun o3 ho3 => ?_
          have hYl : (outL (ls.take (i + 1)) more).length = (outL (ls.take i) more).length + 2 + 1 := by rw [hY, List.length_append]; rfl
          have hYc : strC (outL (ls.take (i + 1)) more) = strC (outL (ls.take i) more) ++ [.string (sB [35, 32, 34]), .string (sB [32, 32])] ++ [.string (sB ([32, 32] ++ l ++ [32]))] := by rw [hY]; unfold strC; rw [List.map_append]; exact app21 _ _ _ _
          repeat' (first | with_reducible refine sw_in (by omega) ?_ | with_reducible (first | refine go1 ?_ | refine sct ?_ | refine scf ?_ | refine sgr ?_) | (with_reducible refine sc_cond (fun h => ?_) (fun h => ?_)) <;> (try (exfalso; first | contradiction | omega | exact h Iff.rfl)) | fail)
          · refine sw_op (h := runop_lenNV o3 (fun h => (ho3.2.1 h).2)) ?_
            repeat' (first | with_reducible refine sw_in (by omega) ?_ | with_reducible (first | refine go1 ?_ | refine sct ?_ | refine scf ?_ | refine sgr ?_) | fail)
            refine sq_round ⟨(i + 1, o3), by dsimp only; omega, by dsimp only; rw [hYl, hYc]; exact ho3⟩ (by show ls.length - (i + 1) < ls.length - i; omega) ?_ ?_
            · show says _ [(1, .slice (some ⟨bm, om, none⟩) more.length mc), (5, .pointer (some ⟨b5, 0, none⟩)), (6, .int .i64 (z)), (7, .int .i64 (0)), (9, nV (outL (ls.take (i + 1)) more).length o3), (10, .int .i64 (atI ls more (z) (i + 1))), (26, .slice (some ⟨b8, 0, none⟩) ls.length ls.length), (27, .int .i64 (ls.length : Int)), (28, .int .i64 ((i + 1 : Nat) : Int))]
              rw [hh (by assumption), hYl]
              repeat' (first | exact says_nil | refine says_cons rfl ?_ | refine says_cons (by simp) ?_)
            · show Ent _ (oR (nG 9 (strC (outL (ls.take (i + 1)) more))) ((b8, pts b8 (.cells (strC ls).toArray 9 (0, 0))) :: (b5, pts b5 (.cells ([.int .i64 n0, .int .i64 n1, .int .i64 n2, .int .i64 n3, .int .i64 n4, .int .i64 n5, .int .i64 n6, va1] : List Value).toArray 26 (0, 0))) :: (7050, ra1) :: (0, ro W) :: F) o3)
              rw [hYc]
              refine oR.ent ?_ o3
              repeat' (first | with_reducible exact Ent.refl _ | with_reducible refine Ent.take_eq ?_ ?_ | rfl | with_reducible refine Ent.trans (Ent.drop _ _) ?_)
          · refine sq_round ⟨(i + 1, o3), by dsimp only; omega, by dsimp only; rw [hYl, hYc]; exact ho3⟩ (by show ls.length - (i + 1) < ls.length - i; omega) ?_ ?_
            · show says _ [(1, .slice (some ⟨bm, om, none⟩) more.length mc), (5, .pointer (some ⟨b5, 0, none⟩)), (6, .int .i64 (z)), (7, .int .i64 (0)), (9, nV (outL (ls.take (i + 1)) more).length o3), (10, .int .i64 (atI ls more (z) (i + 1))), (26, .slice (some ⟨b8, 0, none⟩) ls.length ls.length), (27, .int .i64 (ls.length : Int)), (28, .int .i64 ((i + 1 : Nat) : Int))]
              rw [hm' (by assumption), hYl]
              repeat' (first | exact says_nil | refine says_cons rfl ?_ | refine says_cons (by simp) ?_)
            · show Ent _ (oR (nG 9 (strC (outL (ls.take (i + 1)) more))) ((b8, pts b8 (.cells (strC ls).toArray 9 (0, 0))) :: (b5, pts b5 (.cells ([.int .i64 n0, .int .i64 n1, .int .i64 n2, .int .i64 n3, .int .i64 n4, .int .i64 n5, .int .i64 n6, va1] : List Value).toArray 26 (0, 0))) :: (7050, ra1) :: (0, ro W) :: F) o3)
              rw [hYc]
              refine oR.ent ?_ o3
              repeat' (first | with_reducible exact Ent.refl _ | with_reducible refine Ent.take_eq ?_ ?_ | rfl | with_reducible refine Ent.trans (Ent.drop _ _) ?_)
      · have hY := hs0 (by omega)
        repeat' (first | with_reducible refine sw_in (by omega) ?_ | with_reducible (first | refine go1 ?_ | refine sct ?_ | refine scf ?_ | refine sgr ?_) | with_reducible refine sw_indexN i ⟨rfl, by omega⟩ ?_ | with_reducible refine sw_loadAt (.string (sB l)) hlc ?_ | with_reducible refine sw_guard_skip_u ?_ | (with_reducible refine sc_cond (fun h => ?_) (fun h => ?_)) <;> (try (exfalso; first | contradiction | omega | exact h Iff.rfl)) | (with_reducible refine sw_guard_split (fun h => ?_) (fun h => ?_)) <;> (try (exfalso; first | contradiction | omega | exact h Iff.rfl)) | (with_reducible refine sw_pick (fun h => ?_) (fun h => ?_)) <;> (try (exfalso; first | contradiction | omega | exact h Iff.rfl)) | fail)
        refine sw_build1 fun b7 => ?_
        refine sw_appendNRd (sz := 1) (strC (outL (ls.take i) more)) [.string (sB l)] (outL (ls.take i) more).length o hN src_pts0 (str_one _) (by kernel_rfl) (by omega) ⟨rfl, by omega, by omega⟩ fun o2 ho2 => ?_
        have hYl : (outL (ls.take (i + 1)) more).length = (outL (ls.take i) more).length + 1 := by rw [hY, List.length_append]; rfl
        have hYc : strC (outL (ls.take (i + 1)) more) = strC (outL (ls.take i) more) ++ [.string (sB l)] := by rw [hY]; unfold strC; rw [List.map_append]; rfl
        repeat' (first | with_reducible refine sw_in (by omega) ?_ | with_reducible (first | refine go1 ?_ | refine sct ?_ | refine scf ?_ | refine sgr ?_) | (with_reducible refine sc_cond (fun h => ?_) (fun h => ?_)) <;> (try (exfalso; first | contradiction | omega | exact h Iff.rfl)) | fail)
        · refine sw_op (h := runop_lenNV o2 (fun h => (ho2.2.1 h).2)) ?_
          repeat' (first | with_reducible refine sw_in (by omega) ?_ | with_reducible (first | refine go1 ?_ | refine sct ?_ | refine scf ?_ | refine sgr ?_) | fail)
          refine sq_round ⟨(i + 1, o2), by dsimp only; omega, by dsimp only; rw [hYl, hYc]; exact ho2⟩ (by show ls.length - (i + 1) < ls.length - i; omega) ?_ ?_
          · show says _ [(1, .slice ma more.length mc), (5, .pointer (some ⟨b5, 0, none⟩)), (6, .int .i64 (z)), (7, .int .i64 (0)), (9, nV (outL (ls.take (i + 1)) more).length o2), (10, .int .i64 (atI ls more (z) (i + 1))), (26, .slice (some ⟨b8, 0, none⟩) ls.length ls.length), (27, .int .i64 (ls.length : Int)), (28, .int .i64 ((i + 1 : Nat) : Int))]
            rw [hh (by assumption), hYl]
            repeat' (first | exact says_nil | refine says_cons rfl ?_ | refine says_cons (by simp) ?_)
          · show Ent _ (oR (nG 9 (strC (outL (ls.take (i + 1)) more))) ((b8, pts b8 (.cells (strC ls).toArray 9 (0, 0))) :: (b5, pts b5 (.cells ([.int .i64 n0, .int .i64 n1, .int .i64 n2, .int .i64 n3, .int .i64 n4, .int .i64 n5, .int .i64 n6, va1] : List Value).toArray 26 (0, 0))) :: (7050, ra1) :: (0, ro W) :: F) o2)
            rw [hYc]
            refine oR.ent ?_ o2
            repeat' (first | with_reducible exact Ent.refl _ | with_reducible refine Ent.take_eq ?_ ?_ | rfl | with_reducible refine Ent.trans (Ent.drop _ _) ?_)
        · refine sq_round ⟨(i + 1, o2), by dsimp only; omega, by dsimp only; rw [hYl, hYc]; exact ho2⟩ (by show ls.length - (i + 1) < ls.length - i; omega) ?_ ?_
          · show says _ [(1, .slice ma more.length mc), (5, .pointer (some ⟨b5, 0, none⟩)), (6, .int .i64 (z)), (7, .int .i64 (0)), (9, nV (outL (ls.take (i + 1)) more).length o2), (10, .int .i64 (atI ls more (z) (i + 1))), (26, .slice (some ⟨b8, 0, none⟩) ls.length ls.length), (27, .int .i64 (ls.length : Int)), (28, .int .i64 ((i + 1 : Nat) : Int))]
            rw [hm' (by assumption), hYl]
            repeat' (first | exact says_nil | refine says_cons rfl ?_ | refine says_cons (by simp) ?_)
          · show Ent _ (oR (nG 9 (strC (outL (ls.take (i + 1)) more))) ((b8, pts b8 (.cells (strC ls).toArray 9 (0, 0))) :: (b5, pts b5 (.cells ([.int .i64 n0, .int .i64 n1, .int .i64 n2, .int .i64 n3, .int .i64 n4, .int .i64 n5, .int .i64 n6, va1] : List Value).toArray 26 (0, 0))) :: (7050, ra1) :: (0, ro W) :: F) o2)
            rw [hYc]
            refine oR.ent ?_ o2
            repeat' (first | with_reducible exact Ent.refl _ | with_reducible refine Ent.take_eq ?_ ?_ | rfl | with_reducible refine Ent.trans (Ent.drop _ _) ?_)
    have hie : i = ls.length := by omega
    subst hie
    have hN' := hN
    rw [List.take_length] at hN'
    obtain ⟨b9, c9, t9, rfl⟩ : ∃ b9 c9 t9, o = some (b9, c9, t9) := by
      cases o with
      | none => exact absurd (List.length_eq_zero_iff.1 (hN'.2.1 rfl).2) (outL_ne hlne)
      | some q => exact ⟨q.1, q.2.1, q.2.2, rfl⟩
    have hol3 := outL_len3 ls more
    have hJn := joinR_ok b9 _ _ (outL ls more) 10 (RdT.of_n hN' b9 c9 t9 rfl) (by omega) (by omega)
    rw [nG_some]
    repeat' (first | with_reducible (first | refine go1 ?_ | refine sct ?_ | refine scf ?_ | refine sgr ?_) | (with_reducible refine sc_cond (fun h => ?_) (fun h => ?_)) <;> (try (exfalso; first | contradiction | omega | exact h Iff.rfl)) | fail)
    rw [List.take_length]
    repeat' (first | with_reducible (first | refine go1 ?_ | refine sct ?_ | refine scf ?_ | refine sgr ?_) | ((with_reducible refine sw_callf hJn ?_); rintro _ _ ⟨rfl, rfl⟩) | ((with_reducible refine sw_callf hP2 ?_); rintro _ _ ⟨va2, ra2, hra2, hone2, rfl, rfl⟩) | ((with_reducible refine sw_callf (hSm va1 va2 ra1 ra2 hra1 hra2) ?_); rintro _ _ ⟨rfl, rfl⟩) | with_reducible refine sw_alloc fun b13 => ?_ | with_reducible refine sw_store_agg ?_ | with_reducible refine sw_guard_skip_u ?_ | (with_reducible refine sc_cond (fun h => ?_) (fun h => ?_)) <;> (try (exfalso; first | contradiction | omega | exact h Iff.rfl)) | (with_reducible refine sw_guard_split (fun h => ?_) (fun h => ?_)) <;> (try (exfalso; first | contradiction | omega | exact h Iff.rfl)) | (with_reducible refine sw_pick (fun h => ?_) (fun h => ?_)) <;> (try (exfalso; first | contradiction | omega | exact h Iff.rfl)) | fail)
    refine sq_ret1 Tryd.results5 ?_
    refine ⟨_, ⟨rfl, rfl⟩, ?_⟩
    repeat' (first | with_reducible exact Ent.refl _ | with_reducible refine Ent.take_eq ?_ ?_ | rfl | with_reducible refine Ent.trans (Ent.drop _ _) ?_)
end Go.Gsl
