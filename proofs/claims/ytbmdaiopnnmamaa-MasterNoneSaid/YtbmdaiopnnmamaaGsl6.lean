/- Going through a map keyed by integers, in whatever order the tape picks. -/
import Derived.Test.YtbmdaiopnnmamaaGsl5
namespace Go.Gsl
set_option linter.unusedVariables false

section
variable {P : Program} {ops : List Oper} {Q : Cont} {n : Nat} {w0 : World} {l rest : List Oper} {e : Env} {Rs Rs' F : List Res} {ty : TypeId}

/-- What has come so far. -/
structure Came (L D : List Ent3) : Prop where
  sub : ∀ x ∈ D, x ∈ L
  nodup : (D.map (·.born)).Nodup

/-- Block r goes through the map of block b, that holds 'f' (N entries); 'D' has come. -/
def ItI (k : IntKind) (b r : Nat) (f : Int → Option Value) (N : Nat) (D : List (Int × Value)) : HProp := fun h =>
  ∃ L clock C, (Good L clock ∧ lk L = f ∧ L.length = N ∧ Came L C ∧ C.map (fun x => (x.key, x.val)) = D) ∧
    sepL [(b, pts b (.map (entries k L) clock)), (r, pts r (.mapIter (some b) clock (C.map (·.born)).toArray clock))] h

theorem lk_mem : ∀ (L : List Ent3) (x : Ent3), (L.map (·.key)).Nodup → x ∈ L → lk L x.key = some x.val
  | y :: L, x, hn, hx => by
    simp only [List.map_cons, List.nodup_cons] at hn
    simp only [lk]
    rcases List.mem_cons.1 hx with rfl | hx
    · simp
    · have : y.key ≠ x.key := fun e => hn.1 (by rw [e]; exact List.mem_map_of_mem hx)
      rw [if_neg this]
      exact lk_mem L x hn.2 hx

theorem lk_some : ∀ (L : List Ent3) (i : Int) (v : Value), lk L i = some v → ∃ x ∈ L, x.key = i ∧ x.val = v
  | y :: L, i, v, h => by
    simp only [lk] at h
    split at h
    · rename_i hk
      exact ⟨y, by simp, hk, by simpa using h⟩
    · obtain ⟨x, hx, h1⟩ := lk_some L i v h
      exact ⟨x, by simp [hx], h1⟩

theorem born_inj {L : List Ent3} {clock : Nat} (h : Good L clock) {x y : Ent3} (hx : x ∈ L) (hy : y ∈ L) (e : x.born = y.born) : x = y := by
  have := h.borns
  clear h
  induction L with
  | nil => cases hx
  | cons z L ih =>
    simp only [List.map_cons, List.nodup_cons] at this
    rcases List.mem_cons.1 hx with h1 | h1 <;> rcases List.mem_cons.1 hy with h2 | h2
    · rw [h1, h2]
    · subst h1; exact (this.1 (by rw [e]; exact List.mem_map_of_mem h2)).elim
    · subst h2; exact (this.1 (by rw [← e]; exact List.mem_map_of_mem h1)).elim
    · exact ih h1 h2 this.2

theorem nodup_le {α : Type} [DecidableEq α] : ∀ (A B : List α), A.Nodup → (∀ x ∈ A, x ∈ B) → A.length ≤ B.length
  | [], B, _, _ => by simp
  | x :: A, B, hn, h => by
    have hx := h x (by simp)
    simp only [List.nodup_cons] at hn
    have := nodup_le A (B.erase x) hn.2 fun y hy => (List.mem_erase_of_ne (fun e => hn.1 (by rw [← e]; exact hy))).2 (h y (by simp [hy]))
    rw [List.length_erase_of_mem hx] at this
    have h2 : 0 < B.length := List.length_pos_of_mem hx
    simp only [List.length_cons]
    omega

theorem came_length {L D : List Ent3} (h : Came L D) : D.length ≤ L.length := by
  have hs : ∀ b ∈ D.map (·.born), b ∈ L.map (·.born) := by
    intro b hb
    obtain ⟨x, hx, rfl⟩ := List.mem_map.1 hb
    exact List.mem_map_of_mem (h.sub x hx)
  have := nodup_le _ _ h.nodup hs
  simpa using this

theorem get_it {k : IntKind} {b r : Nat} {f : Int → Option Value} {N : Nat} {D : List (Int × Value)} {w : World} (hw : Sat w0 w Rs) (t : Take Rs r (ItI k b r f N D) F) :
    ∃ L clock C, (Good L clock ∧ lk L = f ∧ L.length = N ∧ Came L C ∧ C.map (fun x => (x.key, x.val)) = D) ∧
      Sat w0 w ((b, pts b (.map (entries k L) clock)) :: (r, pts r (.mapIter (some b) clock (C.map (·.born)).toArray clock)) :: F) := by
  obtain ⟨⟨L, clock, C⟩, hp, h1⟩ := (hw.ent t.ent).opn (α := List Ent3 × Nat × List Ent3) (φ := fun a => Good a.1 a.2.1 ∧ lk a.1 = f ∧ a.1.length = N ∧ Came a.1 a.2.2 ∧ a.2.2.map (fun x => (x.key, x.val)) = D)
    (p := fun a => hall [(b, pts b (.map (entries k a.1) a.2.1)), (r, pts r (.mapIter (some b) a.2.1 (a.2.2.map (·.born)).toArray a.2.1))]) (by rintro x ⟨L, clock, C, h, hq⟩; exact ⟨(L, clock, C), h, hq⟩)
  exact ⟨L, clock, C, hp, h1.ent (Ent.hall_open _ _ _)⟩

theorem put_it {k : IntKind} {b r : Nat} {f : Int → Option Value} {N : Nat} {D : List (Int × Value)} {w : World} {L C : List Ent3} {clock : Nat} (hp : Good L clock ∧ lk L = f ∧ L.length = N ∧ Came L C ∧ C.map (fun x => (x.key, x.val)) = D)
    (hw : Sat w0 w ((b, pts b (.map (entries k L) clock)) :: (r, pts r (.mapIter (some b) clock (C.map (·.born)).toArray clock)) :: F)) : Sat w0 w ((r, ItI k b r f N D) :: F) := by
  exact (hw.ent (Ent.hall_close r [_, _] F)).ent (Ent.head fun x hq => ⟨L, clock, C, hp, hq⟩)

/-- for .. := range m: the iterator -/
theorem sw_range {d : Nat} {t kt et : TypeId} {x : Operand} {k : IntKind} {b : Nat} {f : Int → Option Value} {pos : String} {after : Array Edge} [hx : Ev n e x (.map (some b))] [hu : Und P t (.map kt et)] [ht : Take Rs b (MapI k b f) F]
    (q : ∀ r N, SW P ops Q n w0 rest ((d, .pointer (some ⟨r, 0, none⟩)) :: e) ((r, ItI k b r f N []) :: F)) :
    SW P ops Q n w0 ({ dst := some d, op := .range t x, type := ty, pos := pos, after := after, guard := none } :: rest) e Rs := by
  intro w hw
  obtain ⟨⟨L, clock⟩, ⟨hg, hl⟩, h1⟩ := (hw.ent ht.ent).opn (α := List Ent3 × Nat) (φ := fun a => Good a.1 a.2 ∧ lk a.1 = f) (p := fun a => pts b (.map (entries k a.1) a.2)) (by rintro x ⟨L, clock, h, hp⟩; exact ⟨(L, clock), h, hp⟩)
  have hb := h1.get (Take.here _ _ _)
  have h2 : (getObj b).run P w = .ok (.map (entries k L) clock) w := by
    have : w.heap[b]? = some (.map (entries k L) clock) := hb
    simp [getObj, Sem.run, this]
  have hr : ∀ o : Oper, o.op = .range t x → (execOp (act n e).eval o).run P w = .ok (.value (.pointer (some ⟨w.heap.size, 0, none⟩))) { w with heap := w.heap.push (.mapIter (some b) clock #[] clock) } := by
    intro o ho
    unfold execOp; rw [ho]
    simp [hx.out, Instr.range, run_und (t := t), h2]
  refine wpM_value rfl (hr _ rfl) ?_
  rw [actM_put]
  refine q w.heap.size L.length _ ?_
  have h3 := h1.new (.mapIter (some b) clock #[] clock)
  refine put_it (L := L) (C := []) (clock := clock) ⟨hg, hl, rfl, ⟨by simp, by simp⟩, rfl⟩ ?_
  exact h3.ent (Ent.swap _ _ _)

theorem not_mem_born {L C : List Ent3} {clock : Nat} (hg : Good L clock) (hc : Came L C) {x : Ent3} (hx : x ∈ L) : (C.map (·.born)).contains x.born = true ↔ x ∈ C := by
  rw [List.contains_iff_mem]
  constructor
  · intro h
    obtain ⟨y, hy, e⟩ := List.mem_map.1 h
    rw [← born_inj hg (hc.sub y hy) hx e]; exact hy
  · intro h; exact List.mem_map_of_mem h

/-- the iterator's step -/
theorem sw_next {d : Nat} {x : Operand} {k : IntKind} {b r : Nat} {f : Int → Option Value} {N : Nat} {D : List (Int × Value)} {pos : String} {after : Array Edge} [hx : Ev n e x (.pointer (some ⟨r, 0, none⟩))] [ht : Take Rs r (ItI k b r f N D) F]
    (q1 : (∀ i v, f i = some v → (i, v) ∈ D) → SW P ops Q n w0 rest ((d, .tuple [.bool false].toArray) :: e) ((r, ItI k b r f N D) :: F))
    (q2 : ∀ i v, f i = some v → (∀ u, (i, u) ∉ D) → D.length < N → SW P ops Q n w0 rest ((d, .tuple [.bool true, .int k i, v].toArray) :: e) ((r, ItI k b r f N (D ++ [(i, v)])) :: F)) :
    SW P ops Q n w0 ({ dst := some d, op := .next x false, type := ty, pos := pos, after := after, guard := none } :: rest) e Rs := by
  intro w hw
  obtain ⟨L, clock, C, ⟨hg, hl, hN, hc, hD⟩, hs⟩ := get_it hw ht
  have hb : w.heap[b]? = some (.map (entries k L) clock) := hs.get (Take.here _ _ _)
  have hr : w.heap[r]? = some (.mapIter (some b) clock (C.map (·.born)).toArray clock) := hs.get (Take.there _ _ _ _ _)
  have h1 : (getObj r).run P w = .ok (.mapIter (some b) clock (C.map (·.born)).toArray clock) w := by simp [getObj, Sem.run, hr]
  have h2 : (getObj b).run P w = .ok (.map (entries k L) clock) w := by simp [getObj, Sem.run, hb]
  -- what is left
  let left := L.filter fun x => !(C.map (·.born)).contains x.born
  have hleft : ∀ x, x ∈ left ↔ x ∈ L ∧ x ∉ C := by
    intro x
    rw [List.mem_filter]
    constructor
    · rintro ⟨h, h'⟩
      refine ⟨h, fun hm => ?_⟩
      rw [(not_mem_born hg hc h).2 hm] at h'; cases h'
    · rintro ⟨h, h'⟩
      refine ⟨h, ?_⟩
      cases hh : (C.map (·.born)).contains x.born with
      | false => rfl
      | true => exact (h' ((not_mem_born hg hc h).1 hh)).elim
  have hfil : (entries k L).filter (fun e => !(C.map (·.born)).toArray.contains e.born) = (left.map (Ent3.mk' k)).toArray := by
    unfold entries
    simp only [List.filter_toArray, List.filter_map]
    congr 2
    apply List.filter_congr
    intro y _
    simp [Ent3.mk', Function.comp]
  have hold : (left.map (Ent3.mk' k)).toArray.filter (fun e => decide (e.born < clock)) = (left.map (Ent3.mk' k)).toArray := by
    simp only [List.filter_toArray]
    congr 1
    apply List.filter_eq_self.2
    intro y hy
    obtain ⟨z, hz, rfl⟩ := List.mem_map.1 hy
    have := hg.lt z ((hleft z).1 hz).1
    exact decide_eq_true this
  have hnew : (left.map (Ent3.mk' k)).toArray.filter (fun e => decide (e.born ≥ clock)) = #[] := by
    simp only [List.filter_toArray]
    congr 1
    apply List.filter_eq_nil_iff.2
    intro y hy
    obtain ⟨z, hz, rfl⟩ := List.mem_map.1 hy
    have := hg.lt z ((hleft z).1 hz).1
    simp [Ent3.mk']; omega
  have hgate : (!(C.map (·.born)).toArray.isEmpty && !(entries k L).isEmpty && (entries k L).all (fun e => decide (e.born ≥ clock))) = false := by
    cases hL : L with
    | nil => simp [entries]
    | cons y ys =>
      have := hg.lt y (by simp [hL])
      have h3 : decide (y.born ≥ clock) = false := by simp; omega
      simp [entries, Ent3.mk', h3]
  have hrun : ∀ o : Oper, o.op = .next x false → (execOp (act n e).eval o).run P w =
      ((Sem.run P (do
        let candidates := (if (left.map (Ent3.mk' k)).toArray.isEmpty then #[none] else #[]) ++ ((left.map (Ent3.mk' k)).toArray ++ #[]).map some
        match candidates[← choose (.mapNext candidates.size)]? with
        | some (some e) =>
          setObj r (.mapIter (some b) clock ((C.map (·.born)).toArray.push e.born) clock)
          pure (.tuple #[.bool true, e.key, e.val])
        | some none => pure (.tuple #[.bool false])
        | none => stuck "Next: no such candidate") w).andThen fun v w' => .ok (.value v) w') := by
    intro o ho
    unfold execOp; rw [ho]
    simp only [hx.out, Instr.next, Sem.run_bind, h1, h2, Result.andThen_ok, hgate, Bool.false_eq_true, if_false, hfil, hold, hnew, Sem.run_pure]
    rfl
  unfold wpListIn
  rw [if_pos (by simp [Region.wanted])]
  unfold Oper.wpIn
  refine ⟨fun _ _ => trivial, ?_⟩
  rw [Oper.semAt_eq _ _ _ (by simp), actM_eval, hrun _ rfl]
  cases hlf : left with
  | nil =>
    have hno : ∀ x ∈ L, x ∈ C := by
      intro x hx
      by_cases h : x ∈ C
      · exact h
      · have := (hleft x).2 ⟨hx, h⟩
        rw [hlf] at this; cases this
    simp only [List.map_nil, List.isEmpty_toArray, List.isEmpty_nil, if_true, Array.append_empty, List.map_toArray, Array.append_empty, List.size_toArray, List.length_cons, List.length_nil, Nat.reduceAdd, Sem.run_bind, run_choose, Question.forced, Result.andThen]
    simp [Oper.uponIn]
    rw [actM_put]
    refine q1 ?_ _ (put_it (L := L) (C := C) ⟨hg, hl, hN, hc, hD⟩ hs)
    intro i v hi
    rw [← hl] at hi
    obtain ⟨y, hy, rfl, rfl⟩ := lk_some L i v hi
    rw [← hD]
    exact List.mem_map_of_mem (f := fun x : Ent3 => (x.key, x.val)) (hno y hy)
  | cons y ys =>
    -- whichever is picked
    have hpick : ∀ c w1, c < (y :: ys).length → Sat w0 w1 ((b, pts b (.map (entries k L) clock)) :: (r, pts r (.mapIter (some b) clock (C.map (·.born)).toArray clock)) :: F) →
        ∀ z, (y :: ys)[c]? = some z → wpListIn (fz Q.r) 0 P ops.toArray Q.q rest ((actM Q.m n e).put (some d) (.tuple #[.bool true, .int k z.key, z.val])) { w1 with heap := w1.heap.setIfInBounds r (.mapIter (some b) clock ((C.map (·.born)).toArray.push z.born) clock) } := by
      intro c w1 hcl hs1 z hz
      have hzl : z ∈ left := by rw [hlf]; exact List.mem_of_getElem? hz
      obtain ⟨hzL, hzC⟩ := (hleft z).1 hzl
      have hcame : Came L (C ++ [z]) := by
        refine ⟨fun u hu => ?_, ?_⟩
        · rcases List.mem_append.1 hu with hu | hu
          · exact hc.sub u hu
          · simp only [List.mem_singleton] at hu; rw [hu]; exact hzL
        · simp only [List.map_append, List.map_cons, List.map_nil]
          refine List.nodup_append.2 ⟨hc.nodup, by simp, ?_⟩
          rintro a ha b hb rfl
          simp only [List.mem_singleton] at hb
          obtain ⟨u, hu, e1⟩ := List.mem_map.1 ha
          have : u = z := born_inj hg (hc.sub u hu) hzL (by rw [e1, hb])
          subst this; exact hzC hu
      rw [actM_put]
      refine q2 z.key z.val ?_ ?_ ?_ _ ?_
      · rw [← hl]; exact lk_mem L z hg.keys hzL
      · intro u hu
        rw [← hD] at hu
        obtain ⟨t, htC, e1⟩ := List.mem_map.1 hu
        simp only [Prod.mk.injEq] at e1
        have h5 := lk_mem L t hg.keys (hc.sub t htC)
        have h6 := lk_mem L z hg.keys hzL
        -- one key, one entry
        have : t = z := by
          have hk := hg.keys
          have ht' := hc.sub t htC
          have hb1 : ∀ (M : List Ent3), (M.map (·.key)).Nodup → t ∈ M → z ∈ M → t.born = z.born := by
            intro M
            induction M with
            | nil => intro _ h; cases h
            | cons c M ihM =>
              intro hn h3 h4
              simp only [List.map_cons, List.nodup_cons] at hn
              rcases List.mem_cons.1 h3 with g3 | g3 <;> rcases List.mem_cons.1 h4 with g4 | g4
              · rw [g3, g4]
              · exact (hn.1 (by rw [← g3, e1.1]; exact List.mem_map_of_mem (f := (·.key)) g4)).elim
              · exact (hn.1 (by rw [← g4, ← e1.1]; exact List.mem_map_of_mem (f := (·.key)) g3)).elim
              · exact ihM hn.2 g3 g4
          exact born_inj hg ht' hzL (hb1 _ hk ht' hzL)
        subst this; exact hzC htC
      · have := came_length hcame
        rw [List.length_append] at this
        have h7 : C.length = D.length := by rw [← hD]; simp
        simp at this
        omega
      · refine put_it (L := L) (C := C ++ [z]) (clock := clock) ⟨hg, hl, hN, hcame, by simp [hD]⟩ ?_
        have h8 := hs1.set (b := r) (o := .mapIter (some b) clock (C.map (fun x : Ent3 => x.born)).toArray clock) (Take.there _ _ _ _ _) (.mapIter (some b) clock ((C.map (·.born)).toArray.push z.born) clock)
        have h9 : (C.map (·.born)).toArray.push z.born = ((C ++ [z]).map (·.born)).toArray := by simp
        rw [h9] at h8 ⊢
        exact h8.ent (Ent.swap _ _ _)
    have hcand : ((if (((y :: ys).map (Ent3.mk' k)).toArray.isEmpty = true) then #[none] else #[]) ++ (((y :: ys).map (Ent3.mk' k)).toArray ++ #[]).map some : Array (Option MapEntry)) = (((y :: ys).map (Ent3.mk' k)).map some).toArray := by
      simp
    have hset : ∀ (w1 : World) s, w1.heap[r]? = some (.mapIter (some b) clock (C.map (·.born)).toArray clock) → (setObj r s).run P w1 = .ok () { w1 with heap := w1.heap.setIfInBounds r s } := by
      intro w1 s h; simp [setObj, Sem.run, h]
    simp only [hcand]
    have hsz : ((((y :: ys).map (Ent3.mk' k)).map some).toArray).size = (y :: ys).length := by simp
    rw [hsz]
    have hgo : ∀ c w1, c < (y :: ys).length → Sat w0 w1 ((b, pts b (.map (entries k L) clock)) :: (r, pts r (.mapIter (some b) clock (C.map (·.born)).toArray clock)) :: F) →
        Oper.uponIn (fz Q.r) 0 P { dst := some d, op := .next x false, type := ty, pos := pos, after := after, guard := none } (actM Q.m n e) (wpListIn (fz Q.r) 0 P ops.toArray Q.q rest) Q.q
          ((Sem.run P (match ((((y :: ys).map (Ent3.mk' k)).map some).toArray)[c]? with
            | some (some e) => do
              setObj r (.mapIter (some b) clock ((C.map (·.born)).toArray.push e.born) clock)
              pure (.tuple #[.bool true, e.key, e.val])
            | some none => pure (.tuple #[.bool false])
            | none => stuck "Next: no such candidate") w1).andThen fun v w' => .ok (.value v) w') := by
      intro c w1 hcl hs1
      obtain ⟨z, hz⟩ : ∃ z, (y :: ys)[c]? = some z := ⟨_, List.getElem?_eq_getElem hcl⟩
      have hr1 : w1.heap[r]? = some (.mapIter (some b) clock (C.map (·.born)).toArray clock) := hs1.get (Take.there _ _ _ _ _)
      have hz2 : ((((y :: ys).map (Ent3.mk' k)).map some).toArray)[c]? = some (some (Ent3.mk' k z)) := by
        simp only [List.getElem?_toArray, List.getElem?_map, hz, Option.map_some]
      rw [hz2]
      simp only [Sem.run_bind, hset w1 _ hr1, Result.andThen_ok, Sem.run_pure]
      exact hpick c w1 hcl hs1 z hz
    simp only [Sem.run_bind, run_choose]
    split
    · rename_i hfo
      simp only [Result.andThen_ok]
      exact hgo 0 w (by simp) hs
    · rename_i hfo
      simp only [Result.andThen_ok]
      exact hgo _ _ (by simp only [Question.cut]; exact Nat.mod_lt _ (by simp)) (hs.draw _)

/-- the entry that came last -/
instance RunOp.entry (x : Operand) (k : IntKind) (b r : Nat) (f : Int → Option Value) (N : Nat) (D : List (Int × Value)) (i : Int) (v : Value) (F : List Res) [hx : Ev n e x (.pointer (some ⟨r, 0, none⟩))] [ht : Take Rs r (ItI k b r f N (D ++ [(i, v)])) F] :
    RunOp P n w0 e Rs (.entry x) ty (.tuple [.int k i, v].toArray) :=
  ⟨fun o ho _ w hw => by
    obtain ⟨L, clock, C, ⟨hg, hl, hN, hc, hD⟩, hs⟩ := get_it hw ht
    have hb : w.heap[b]? = some (.map (entries k L) clock) := hs.get (Take.here _ _ _)
    have hr : w.heap[r]? = some (.mapIter (some b) clock (C.map (·.born)).toArray clock) := hs.get (Take.there _ _ _ _ _)
    have h1 : (getObj r).run P w = .ok (.mapIter (some b) clock (C.map (·.born)).toArray clock) w := by simp [getObj, Sem.run, hr]
    have h2 : (getObj b).run P w = .ok (.map (entries k L) clock) w := by simp [getObj, Sem.run, hb]
    obtain ⟨C1, z, rfl⟩ : ∃ C1 z, C = C1 ++ [z] := by
      rcases List.eq_nil_or_concat C with h | ⟨C1, z, h⟩
      · subst h; simp at hD
      · exact ⟨C1, z, by simpa using h⟩
    have hz : z.key = i ∧ z.val = v := by
      simp only [List.map_append, List.map_cons, List.map_nil] at hD
      have := (List.append_inj' hD rfl).2
      simpa using this
    have hzL : z ∈ L := hc.sub z (by simp)
    have hfind : (entries k L).find? (fun e => e.born == z.born) = some (Ent3.mk' k z) := by
      unfold entries
      rw [List.find?_toArray, List.find?_map]
      have : L.find? ((fun e : MapEntry => e.born == z.born) ∘ Ent3.mk' k) = some z := by
        have hex : ∃ a, L.find? ((fun e : MapEntry => e.born == z.born) ∘ Ent3.mk' k) = some a := by
          cases hh : L.find? ((fun e : MapEntry => e.born == z.born) ∘ Ent3.mk' k) with
          | some a => exact ⟨a, rfl⟩
          | none =>
            have := List.find?_eq_none.1 hh z hzL
            simp [Ent3.mk'] at this
        obtain ⟨a, ha⟩ := hex
        have h3 := List.find?_some ha
        have h4 := List.mem_of_find?_eq_some ha
        simp only [Function.comp, Ent3.mk', beq_iff_eq] at h3
        rw [ha, born_inj hg h4 hzL h3]
      rw [this]; rfl
    unfold execOp; rw [ho]
    simp [hx.out, Instr.entry, h1, h2, hfind, Ent3.mk', hz.1, hz.2]⟩

/-- behind the loop: the map -/
theorem ItI.map {k : IntKind} {b r : Nat} {f : Int → Option Value} {N : Nat} {D : List (Int × Value)} {k2 : Nat} : Ent ((k2, ItI k b r f N D) :: F) ((b, MapI k b f) :: F) := by
  rintro h ⟨x, y, hd, rfl, ⟨L, clock, C, ⟨hg, hl, _⟩, hq⟩, hF⟩
  have h1 := (sepL_append [_, _] F _).2 ⟨x, y, hd, rfl, hq, hF⟩
  obtain ⟨a, c, hd2, hj2, hp, hr⟩ := h1
  exact ⟨a, c, hd2, hj2, ⟨L, clock, ⟨hg, hl⟩, hp⟩, Ent.drop _ _ _ hr⟩

end
end Go.Gsl
