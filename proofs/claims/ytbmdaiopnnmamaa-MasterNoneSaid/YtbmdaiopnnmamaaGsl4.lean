/- Atomic numbers; the memory that came in; maps keyed by integers. -/
import Derived.Test.YtbmdaiopnnmamaaGsl3
namespace Go.Gsl
set_option linter.unusedVariables false

section
variable {P : Program} {ops : List Oper} {Q : Cont} {n : Nat} {w0 : World} {l rest : List Oper} {e : Env} {Rs Rs' F : List Res} {ty : TypeId}

/-! ### sync/atomic -/
class AtLoad (P : Program) (f : FuncId) (k : outParam IntKind) : Prop where
  out : ∀ a x w, World.cell? w a = some (.int k x) → (callFunc f #[.pointer (some a)]).run P w = .ok (.value (.int k x)) w
class AtStore (P : Program) (f : FuncId) (k : outParam IntKind) : Prop where
  out : ∀ a u y w, World.cell? w a = some u → w.frozen? a = false → (callFunc f #[.pointer (some a), .int k y]).run P w = .ok (.value (.tuple #[])) (w.setCell a (.int k y))
class AtAdd (P : Program) (f : FuncId) (k : outParam IntKind) : Prop where
  out : ∀ a x y w, World.cell? w a = some (.int k x) → w.frozen? a = false → (callFunc f #[.pointer (some a), .int k y]).run P w = .ok (.value (.int k (k.wrap (x + y)))) (w.setCell a (.int k (k.wrap (x + y))))

instance RunOp.atLoad (f : FuncId) (k : IntKind) (args : List Operand) (ts : Array TypeId) (b i : Nat) (cs : Array Value) (t : TypeId) (fr : Nat × Nat) (x : Int) (F : List Res) [h : AtLoad P f k] [ha : EvL n e args [.pointer (some ⟨b, i, none⟩)]]
    [ht : Take Rs b (pts b (.cells cs t fr)) F] [hc : CellAt cs i (.int k x)] : RunOp P n w0 e Rs (.call { callee := .value (.func f), args := args.toArray, argTypes := ts }) ty (.int k x) :=
  ⟨fun o h1 _ w hw => by rw [run_call_func h1 ha.out]; exact h.out _ _ _ (cell_of (hw.get ht) hc.out)⟩

theorem sw_atStore {d : Nat} {f : FuncId} {k : IntKind} {args : List Operand} {ts : Array TypeId} {b i : Nat} {cs cs' : List Value} {t : TypeId} {y : Int} {pos : String} {after : Array Edge} [h : AtStore P f k] [ha : EvL n e args [.pointer (some ⟨b, i, none⟩), .int k y]]
    [ht : Take Rs b (pts b (.cells cs.toArray t (0, 0))) F] [hc : SetAt cs i (.int k y) cs']
    (q : SW P ops Q n w0 rest ((d, .tuple #[]) :: e) ((b, pts b (.cells cs'.toArray t (0, 0))) :: F)) :
    SW P ops Q n w0 ({ dst := some d, op := .call { callee := .value (.func f), args := args.toArray, argTypes := ts }, type := ty, pos := pos, after := after, guard := none } :: rest) e Rs := by
  intro w hw
  have hb := hw.get ht
  have hcell : w.cell? ⟨b, i, none⟩ = some cs[i]! := cell_of hb (by have := hc.out.1; simp [this])
  refine wpM_value rfl (by rw [run_call_func rfl ha.out, h.out _ _ _ _ hcell (by simp [World.frozen?, hb]), setCell_eq hb]) ?_
  have h3 : cs.toArray.setIfInBounds i (.int k y) = cs'.toArray := by simp [hc.out.2]
  rw [h3]
  have := q _ (hw.set ht (.cells cs'.toArray t (0, 0)))
  rw [actM_put]; exact this

theorem sw_atAdd {d : Nat} {f : FuncId} {k : IntKind} {args : List Operand} {ts : Array TypeId} {b i : Nat} {cs cs' : List Value} {t : TypeId} {x y : Int} (z : Int) {pos : String} {after : Array Edge} [h : AtAdd P f k] [ha : EvL n e args [.pointer (some ⟨b, i, none⟩), .int k y]]
    [ht : Take Rs b (pts b (.cells cs.toArray t (0, 0))) F] [hx : TupAt cs i (.int k x)] (hz : k.wrap (x + y) = z) [hc : SetAt cs i (.int k z) cs']
    (q : SW P ops Q n w0 rest ((d, .int k z) :: e) ((b, pts b (.cells cs'.toArray t (0, 0))) :: F)) :
    SW P ops Q n w0 ({ dst := some d, op := .call { callee := .value (.func f), args := args.toArray, argTypes := ts }, type := ty, pos := pos, after := after, guard := none } :: rest) e Rs := by
  intro w hw
  subst hz
  have hb := hw.get ht
  have hcell : w.cell? ⟨b, i, none⟩ = some (.int k x) := cell_of hb (by simpa using hx.out)
  refine wpM_value rfl (by rw [run_call_func rfl ha.out, h.out _ _ _ _ hcell (by simp [World.frozen?, hb]), setCell_eq hb]) ?_
  have h3 : cs.toArray.setIfInBounds i (.int k (k.wrap (x + y))) = cs'.toArray := by simp [hc.out.2]
  rw [h3]
  have := q _ (hw.set ht (.cells cs'.toArray t (0, 0)))
  rw [actM_put]; exact this

/-! ### the memory that came in -/
/-- All of W's blocks as they were. (Its key: 0.) -/
def ro (W : World) : HProp := fun h => ∀ (b : Nat) (o : Obj), W.heap[b]? = some o → h b = some (o, true)

theorem ro_block {W : World} [t : Take Rs 0 (ro W) F] {b : Nat} (hb : b < W.heap.size) (w : World) (hw : Sat w0 w Rs) : w.heap[b]? = W.heap[b]? := by
  have : (W.heap[b]?).isSome := by simp [hb]
  obtain ⟨o, ho⟩ := Option.isSome_iff_exists.1 this
  rw [ho]
  exact ((hw.ent t.ent).ent (Ent.head (r' := imm b o) fun x hr => hr b o ho)).get_imm (Take.here _ _ _)

theorem lt_of_cell {W : World} {a : Addr} {v : Value} (h : W.cell? a = some v) : a.block < W.heap.size := by
  unfold World.cell? at h
  split at h
  · rename_i hb; exact (Array.getElem?_eq_some_iff.1 hb).1
  · cases h

theorem ro_cell {W : World} [t : Take Rs 0 (ro W) F] {a : Addr} {v : Value} (h : W.cell? a = some v) (w : World) (hw : Sat w0 w Rs) : w.cell? a = some v := by
  rw [← h]
  exact World.cell?_of_block (w := W) (ro_block (t := t) (lt_of_cell h) w hw)

theorem sat_start (W : World) : Sat W W [(0, ro W)] := by
  refine ⟨⟨rfl, rfl, rfl⟩, fun k => (W.heap[k]?).map fun o => (o, true), ?_, fun k => (W.heap[k]?).map fun o => (o, true), fun _ => none, fun _ => .inr (.inl rfl), ?_, fun b o ho => by simp [ho], trivial⟩
  · intro k o f h
    simp only at h
    cases hk : W.heap[k]? with
    | none => rw [hk] at h; cases h
    | some p => rw [hk] at h; simp at h; rw [h.1]
  · funext k; simp [hjoin]

theorem below_of_sat {W w : World} (h : Sat W w Rs) [t : Take Rs 0 (ro W) F] : RowKit.Below W.heap.size W w := by
  refine ⟨h.1.1, h.1.2.1, h.1.2.2, ?_, fun k hk => ro_block (t := t) hk w h⟩
  rcases Nat.eq_zero_or_pos W.heap.size with h0 | h0
  · omega
  · have := ro_block (t := t) (b := W.heap.size - 1) (by omega) w h
    have h2 : (W.heap[W.heap.size - 1]?).isSome := by simp; omega
    rw [← this] at h2
    have : W.heap.size - 1 < w.heap.size := by simpa using h2
    omega

/-! ### maps keyed by integers -/
structure Ent3 where
  key : Int
  val : Value
  born : Nat

def Ent3.mk' (k : IntKind) (x : Ent3) : MapEntry := ⟨.int k x.key, x.val, x.born⟩
def entries (k : IntKind) (L : List Ent3) : Array MapEntry := (L.map (Ent3.mk' k)).toArray
def lk : List Ent3 → Int → Option Value
  | [], _ => none
  | x :: L, i => if x.key = i then some x.val else lk L i

structure Good (L : List Ent3) (clock : Nat) : Prop where
  keys : (L.map (·.key)).Nodup
  borns : (L.map (·.born)).Nodup
  lt : ∀ x ∈ L, x.born < clock

/-- Block b is a map that holds just this. -/
def MapI (k : IntKind) (b : Nat) (f : Int → Option Value) : HProp := fun h => ∃ L clock, (Good L clock ∧ lk L = f) ∧ pts b (.map (entries k L) clock) h

def ix : List Ent3 → Int → Nat → Option (Nat × Value)
  | [], _, _ => none
  | x :: L, i, j => if x.key = i then some (j, x.val) else ix L i (j + 1)

theorem findNow_entries (k k' : IntKind) (i : Int) : ∀ (L : List Ent3) (j : Nat), Instr.findNow (.int k') (.int k i) (L.map (Ent3.mk' k)) j = some (ix L i j)
  | [], j => rfl
  | x :: L, j => by
    simp only [List.map_cons, Instr.findNow, Ent3.mk', Instr.sameNow, if_true, ix]
    by_cases h : x.key = i
    · subst h; simp
    · have h2 : (i == x.key) = false := by simpa using fun e => h e.symm
      simp only [h2, h, if_false]
      exact findNow_entries k k' i L (j + 1)

theorem ix_lk : ∀ (L : List Ent3) (i : Int) (j : Nat), (ix L i j).map (·.2) = lk L i
  | [], _, _ => rfl
  | x :: L, i, j => by
    simp only [ix, lk]
    split
    · rfl
    · exact ix_lk L i (j + 1)

theorem ix_lt : ∀ (L : List Ent3) (i : Int) (j m : Nat) (v : Value), ix L i j = some (m, v) → ∃ r, m = j + r ∧ ∃ b, L[r]? = some ⟨i, v, b⟩
  | [], _, _, _, _, h => by cases h
  | x :: L, i, j, m, v, h => by
    simp only [ix] at h
    split at h
    · rename_i hk
      simp only [Option.some.injEq, Prod.mk.injEq] at h
      obtain ⟨rfl, rfl⟩ := h
      subst hk
      exact ⟨0, rfl, x.born, by simp⟩
    · obtain ⟨r, rfl, b, hb⟩ := ix_lt L i (j + 1) m v h
      exact ⟨r + 1, by omega, b, by simpa using hb⟩

theorem ix_none : ∀ (L : List Ent3) (i : Int) (j : Nat), ix L i j = none → ∀ x ∈ L, x.key ≠ i
  | [], _, _, _ => by simp
  | x :: L, i, j, h => by
    simp only [ix] at h
    split at h
    · cases h
    · rename_i hk
      intro y hy
      rcases List.mem_cons.1 hy with rfl | hy
      · exact hk
      · exact ix_none L i (j + 1) h y hy

theorem run_checkKey_int {P : Program} {kt : TypeId} {k' : IntKind} (hu : P.underlying kt = some (.int k')) (em : Bool) (m : Nat) (v : Value) (w : World) : (Instr.checkKey em (m + 1) kt v).run P w = .ok () w := by
  have : (underlying kt).run P w = .ok (.int k') w := by simp [underlying, hu]
  cases v <;> simp [Instr.checkKey, this]

theorem run_findKey_int {P : Program} {kt : TypeId} {k k' : IntKind} (hu : P.underlying kt = some (.int k')) (i : Int) (L : List Ent3) (w : World) : (Instr.findKey kt (.int k i) (entries k L).toList).run P w = .ok (ix L i 0) w := by
  have : (underlying kt).run P w = .ok (.int k') w := by simp [underlying, hu]
  simp [Instr.findKey, this, entries, findNow_entries]

theorem get_map {w : World} {k : IntKind} {b : Nat} {f : Int → Option Value} (hw : Sat w0 w Rs) (t : Take Rs b (MapI k b f) F) : ∃ L clock, Good L clock ∧ lk L = f ∧ w.heap[b]? = some (.map (entries k L) clock) ∧
    ∀ L' clock' g, Good L' clock' → lk L' = g → Sat w0 { w with heap := w.heap.setIfInBounds b (.map (entries k L') clock') } ((b, MapI k b g) :: F) := by
  obtain ⟨⟨L, clock⟩, ⟨hg, hl⟩, h1⟩ := (hw.ent t.ent).opn (α := List Ent3 × Nat) (φ := fun a => Good a.1 a.2 ∧ lk a.1 = f) (p := fun a => pts b (.map (entries k a.1) a.2)) (by rintro x ⟨L, clock, h, hp⟩; exact ⟨(L, clock), h, hp⟩)
  refine ⟨L, clock, hg, hl, h1.get (Take.here _ _ _), ?_⟩
  intro L' clock' g hg' hl'
  exact (h1.set (Take.here _ _ _) (.map (entries k L') clock')).ent (Ent.head fun x hp => ⟨L', clock', ⟨hg', hl'⟩, hp⟩)

/-- m[i] -/
theorem runop_lookup {t kt et : TypeId} {x y : Operand} {k k' : IntKind} {b : Nat} {f : Int → Option Value} {i : Int} {z : Value} [hx : Ev n e x (.map (some b))] [hy : Ev n e y (.int k i)] [hu : Und P t (.map kt et)] [hk : Und P kt (.int k')] [hz : ZeroOf P et z]
    [ht : Take Rs b (MapI k b f) F] : RunOp P n w0 e Rs (.lookup t x y false) ty ((f i).getD z) :=
  ⟨fun o h1 _ w hw => by
    obtain ⟨L, clock, hg, hl, hb, _⟩ := get_map hw ht
    unfold execOp; rw [h1]
    have h2 : (getObj b).run P w = .ok (.map (entries k L) clock) w := by simp [getObj, Sem.run, hb]
    have h3 := run_checkKey_int (kt := kt) hk.out (entries k L).isEmpty 9999 (.int k i) w
    have h4 := run_findKey_int (k := k) (kt := kt) hk.out i L w
    have h5 : (ix L i 0).map (·.2) = f i := by rw [ix_lk, hl]
    simp only [hx.out, hy.out, Instr.lookup, Sem.run_bind, run_und (t := t), Result.andThen_ok, h2, Sem.run_pure, h3, h4]
    cases hi : ix L i 0 with
    | none => rw [hi] at h5; simp only [Option.map_none] at h5; simp [← h5, hz.out]
    | some p => rw [hi] at h5; simp only [Option.map_some] at h5; simp [← h5]⟩

/-- v, ok := m[i] -/
theorem runop_lookup2 {t kt et : TypeId} {x y : Operand} {k k' : IntKind} {b : Nat} {f : Int → Option Value} {i : Int} {z : Value} [hx : Ev n e x (.map (some b))] [hy : Ev n e y (.int k i)] [hu : Und P t (.map kt et)] [hk : Und P kt (.int k')] [hz : ZeroOf P et z]
    [ht : Take Rs b (MapI k b f) F] : RunOp P n w0 e Rs (.lookup t x y true) ty (.tuple [(f i).getD z, .bool (f i).isSome].toArray) :=
  ⟨fun o h1 _ w hw => by
    obtain ⟨L, clock, hg, hl, hb, _⟩ := get_map hw ht
    unfold execOp; rw [h1]
    have h2 : (getObj b).run P w = .ok (.map (entries k L) clock) w := by simp [getObj, Sem.run, hb]
    have h3 := run_checkKey_int (kt := kt) hk.out (entries k L).isEmpty 9999 (.int k i) w
    have h4 := run_findKey_int (k := k) (kt := kt) hk.out i L w
    have h5 : (ix L i 0).map (·.2) = f i := by rw [ix_lk, hl]
    simp only [hx.out, hy.out, Instr.lookup, Sem.run_bind, run_und (t := t), Result.andThen_ok, h2, Sem.run_pure, h3, h4]
    cases hi : ix L i 0 with
    | none => rw [hi] at h5; simp only [Option.map_none] at h5; simp [← h5, hz.out]
    | some p => rw [hi] at h5; simp only [Option.map_some] at h5; simp [← h5]⟩

instance RunOp.lookup (t kt et : TypeId) (x y : Operand) (k k' : IntKind) (b : Nat) (f : Int → Option Value) (i : Int) (z : Value) (F : List Res) [Ev n e x (.map (some b))] [Ev n e y (.int k i)] [Und P t (.map kt et)] [Und P kt (.int k')] [ZeroOf P et z]
    [Take Rs b (MapI k b f) F] : RunOp P n w0 e Rs (.lookup t x y false) ty ((f i).getD z) := runop_lookup
instance RunOp.lookup2 (t kt et : TypeId) (x y : Operand) (k k' : IntKind) (b : Nat) (f : Int → Option Value) (i : Int) (z : Value) (F : List Res) [Ev n e x (.map (some b))] [Ev n e y (.int k i)] [Und P t (.map kt et)] [Und P kt (.int k')] [ZeroOf P et z]
    [Take Rs b (MapI k b f) F] : RunOp P n w0 e Rs (.lookup t x y true) ty (.tuple [(f i).getD z, .bool (f i).isSome].toArray) := runop_lookup2

def mput (f : Int → Option Value) (i : Int) (v : Value) : Int → Option Value := fun j => if j = i then some v else f j
def mdel (f : Int → Option Value) (i : Int) : Int → Option Value := fun j => if j = i then none else f j
def mnil : Int → Option Value := fun _ => none

theorem lk_none : ∀ (L : List Ent3) (i : Int), (∀ x ∈ L, x.key ≠ i) → lk L i = none
  | [], _, _ => rfl
  | x :: L, i, h => by
    have h1 := h x (by simp)
    simp [lk, h1, lk_none L i fun y hy => h y (by simp [hy])]

theorem lk_append_new : ∀ (L : List Ent3) (x : Ent3) (i : Int), (∀ y ∈ L, y.key ≠ x.key) → lk (L ++ [x]) i = if i = x.key then some x.val else lk L i
  | [], x, i, _ => by simp [lk, eq_comm]
  | y :: L, x, i, h => by
    simp only [List.cons_append, lk]
    have hy := h y (by simp)
    rw [lk_append_new L x i fun z hz => h z (by simp [hz])]
    by_cases h1 : y.key = i
    · subst h1; simp [hy]
    · simp [h1]

theorem lk_set : ∀ (L : List Ent3) (r : Nat) (x : Ent3) (y : Ent3) (i : Int), (L.map (·.key)).Nodup → L[r]? = some x → y.key = x.key → lk (L.set r y) i = if i = x.key then some y.val else lk L i
  | [], r, x, y, i, _, h, _ => by simp at h
  | z :: L, 0, x, y, i, hn, h, hk => by
    simp only [List.getElem?_cons_zero, Option.some.injEq] at h
    subst h
    simp only [List.set_cons_zero, lk, hk]
    by_cases h1 : z.key = i
    · simp [h1]
    · simp [h1, Ne.symm h1]
  | z :: L, r + 1, x, y, i, hn, h, hk => by
    simp only [List.getElem?_cons_succ] at h
    simp only [List.map_cons, List.nodup_cons] at hn
    simp only [List.set_cons_succ, lk]
    rw [lk_set L r x y i hn.2 h hk]
    have hm : x ∈ L := List.mem_of_getElem? h
    have : z.key ≠ x.key := fun e => hn.1 (by rw [e]; exact List.mem_map_of_mem hm)
    by_cases h1 : z.key = i
    · subst h1; simp [this]
    · simp [h1]

theorem lk_erase : ∀ (L : List Ent3) (r : Nat) (x : Ent3) (i : Int), (L.map (·.key)).Nodup → L[r]? = some x → lk (L.eraseIdx r) i = if i = x.key then none else lk L i
  | [], r, x, i, _, h => by simp at h
  | z :: L, 0, x, i, hn, h => by
    simp only [List.getElem?_cons_zero, Option.some.injEq] at h
    subst h
    simp only [List.map_cons, List.nodup_cons] at hn
    simp only [List.eraseIdx_cons_zero, lk]
    by_cases h1 : i = z.key
    · subst h1
      simp only [if_true]
      exact lk_none L _ fun y hy e => hn.1 (by rw [← e]; exact List.mem_map_of_mem hy)
    · have h2 : z.key ≠ i := fun e => h1 e.symm
      simp [h1, h2]
  | z :: L, r + 1, x, i, hn, h => by
    simp only [List.getElem?_cons_succ] at h
    simp only [List.map_cons, List.nodup_cons] at hn
    simp only [List.eraseIdx_cons_succ, lk]
    rw [lk_erase L r x i hn.2 h]
    have hm : x ∈ L := List.mem_of_getElem? h
    have : z.key ≠ x.key := fun e => hn.1 (by rw [e]; exact List.mem_map_of_mem hm)
    by_cases h1 : z.key = i
    · subst h1; simp [this]
    · simp [h1]

theorem Good.push {L : List Ent3} {clock : Nat} (h : Good L clock) (i : Int) (v : Value) (hi : ∀ x ∈ L, x.key ≠ i) : Good (L ++ [⟨i, v, clock⟩]) (clock + 1) := by
  refine ⟨?_, ?_, ?_⟩
  · simp only [List.map_append, List.map_cons, List.map_nil]
    refine List.nodup_append.2 ⟨h.keys, by simp, ?_⟩
    rintro a ha b hb rfl
    simp only [List.mem_singleton] at hb
    obtain ⟨x, hx, e⟩ := List.mem_map.1 ha
    exact hi x hx (by rw [e, hb])
  · simp only [List.map_append, List.map_cons, List.map_nil]
    refine List.nodup_append.2 ⟨h.borns, by simp, ?_⟩
    rintro a ha b hb rfl
    simp only [List.mem_singleton] at hb
    obtain ⟨x, hx, e⟩ := List.mem_map.1 ha
    have := h.lt x hx
    omega
  · intro x hx
    rcases List.mem_append.1 hx with hx | hx
    · have := h.lt x hx; omega
    · simp only [List.mem_singleton] at hx; subst hx; simp

theorem map_set_same {α β : Type} (g : α → β) : ∀ (L : List α) (r : Nat) (x y : α), L[r]? = some x → g y = g x → (L.set r y).map g = L.map g
  | [], _, _, _, h, _ => by simp at h
  | z :: L, 0, x, y, h, hg => by simp at h; subst h; simp [hg]
  | z :: L, r + 1, x, y, h, hg => by simp at h; simp [map_set_same g L r x y h hg]

theorem Good.set {L : List Ent3} {clock : Nat} (h : Good L clock) {r : Nat} {x : Ent3} (hr : L[r]? = some x) (v : Value) : Good (L.set r ⟨x.key, v, x.born⟩) clock := by
  refine ⟨?_, ?_, ?_⟩
  · rw [map_set_same (·.key) L r x ⟨x.key, v, x.born⟩ hr rfl]; exact h.keys
  · rw [map_set_same (·.born) L r x ⟨x.key, v, x.born⟩ hr rfl]; exact h.borns
  · intro y hy
    rcases List.mem_or_eq_of_mem_set hy with hy | rfl
    · exact h.lt y hy
    · exact h.lt x (List.mem_of_getElem? hr)

theorem Good.erase {L : List Ent3} {clock : Nat} (h : Good L clock) (r : Nat) : Good (L.eraseIdx r) clock := by
  have hs : (L.eraseIdx r).Sublist L := List.eraseIdx_sublist ..
  exact ⟨h.keys.sublist (hs.map _), h.borns.sublist (hs.map _), fun x hx => h.lt x (hs.subset hx)⟩

theorem eraseIdx_mapped {α β : Type} (g : α → β) : ∀ (L : List α) (r : Nat), (L.map g).eraseIdx r = (L.eraseIdx r).map g
  | [], _ => rfl
  | _ :: _, 0 => rfl
  | x :: L, r + 1 => by simp [eraseIdx_mapped g L r]

theorem run_setObj_map {w : World} {b : Nat} {es es' : Array MapEntry} {c c' : Nat} (hb : w.heap[b]? = some (.map es c)) : (setObj b (.map es' c')).run P w = .ok () { w with heap := w.heap.setIfInBounds b (.map es' c') } := by
  simp [setObj, Sem.run, hb]

/-- m[i] = v -/
theorem sw_mapUpdate {t kt et : TypeId} {x y z : Operand} {k k' : IntKind} {b : Nat} {f : Int → Option Value} {i : Int} {v : Value} {pos : String} {after : Array Edge} [hx : Ev n e x (.map (some b))] [hy : Ev n e y (.int k i)] [hz : Ev n e z v] [hu : Und P t (.map kt et)] [hk : Und P kt (.int k')]
    [ht : Take Rs b (MapI k b f) F] (q : SW P ops Q n w0 rest e ((b, MapI k b (mput f i v)) :: F)) :
    SW P ops Q n w0 ({ dst := none, op := .mapUpdate t x y z, type := ty, pos := pos, after := after, guard := none } :: rest) e Rs := by
  intro w hw
  obtain ⟨L, clock, hg, hl, hb, hset⟩ := get_map hw ht
  have h2 : (getObj b).run P w = .ok (.map (entries k L) clock) w := by simp [getObj, Sem.run, hb]
  have h3 := run_checkKey_int (kt := kt) hk.out false 9999 (.int k i) w
  have h4 := run_findKey_int (k := k) (kt := kt) hk.out i L w
  suffices hrun : ∃ L' clock', Good L' clock' ∧ lk L' = mput f i v ∧ ∀ o : Oper, o.op = .mapUpdate t x y z → (execOp (act n e).eval o).run P w = .ok .skip { w with heap := w.heap.setIfInBounds b (.map (entries k L') clock') } by
    obtain ⟨L', clock', hg', hl', hr⟩ := hrun
    exact wpM_skip rfl (hr _ rfl) (q _ (hset L' clock' _ hg' hl'))
  cases hi : ix L i 0 with
  | none =>
    have hno := ix_none L i 0 hi
    refine ⟨L ++ [⟨i, v, clock⟩], clock + 1, hg.push i v hno, ?_, ?_⟩
    · funext j; rw [lk_append_new L ⟨i, v, clock⟩ j hno, hl]; rfl
    · intro o h1
      unfold execOp; rw [h1]
      simp only [hx.out, hy.out, hz.out, Instr.mapUpdate, Sem.run_bind, run_und (t := t), Result.andThen_ok, h2, h3, h4, hi, run_setObj_map hb]
      simp [entries, Ent3.mk']
  | some p =>
    obtain ⟨m, u⟩ := p
    obtain ⟨r, rfl, bn, hr⟩ := ix_lt L i 0 m u hi
    rw [Nat.zero_add] at hi
    refine ⟨L.set r ⟨i, v, bn⟩, clock, hg.set hr v, ?_, ?_⟩
    · funext j; rw [lk_set L r _ ⟨i, v, bn⟩ j hg.keys hr rfl, hl]; rfl
    · intro o h1
      unfold execOp; rw [h1]
      have hlt : r < L.length := (List.getElem?_eq_some_iff.1 hr).1
      have hkey : (((entries k L)[r]?).map (·.key)).getD (.int k i) = .int k i := by simp [entries, hr, Ent3.mk']
      have hstay : (Instr.keyThatStays (.int k i) (.int k i)).run P w = .ok (.int k i) w := by simp [Instr.keyThatStays, Instr.sameBits]
      have hmod : (entries k L).modify r (fun e => { e with key := .int k i, val := v }) = entries k (L.set r ⟨i, v, bn⟩) := by
        unfold entries
        apply Array.ext_getElem?
        intro j
        rw [Array.getElem?_modify]
        by_cases hj : r = j
        · subst hj
          obtain ⟨hlt', hge⟩ := List.getElem?_eq_some_iff.1 hr
          simp [hlt, hge, Ent3.mk']
        · simp [hj, List.getElem?_set_ne hj]
      simp only [hx.out, hy.out, hz.out, Instr.mapUpdate, Sem.run_bind, run_und (t := t), Result.andThen_ok, h2, h3, h4, hi, hkey, hstay, run_setObj_map hb, hmod]
      simp

/-- delete(m, i) -/
theorem sw_delete {t kt et ty' : TypeId} {x y : Operand} {k k' : IntKind} {b : Nat} {f : Int → Option Value} {i : Int} {pos : String} {after : Array Edge} [hx : Ev n e x (.map (some b))] [hy : Ev n e y (.int k i)] [hu : Und P t (.map kt et)] [hk : Und P kt (.int k')]
    [ht : Take Rs b (MapI k b f) F] (q : SW P ops Q n w0 rest e ((b, MapI k b (mdel f i)) :: F)) :
    SW P ops Q n w0 ({ dst := none, op := .call { callee := .builtin .delete, args := [x, y].toArray, argTypes := [t, ty'].toArray }, type := ty, pos := pos, after := after, guard := none } :: rest) e Rs := by
  intro w hw
  obtain ⟨L, clock, hg, hl, hb, hset⟩ := get_map hw ht
  have h2 : (getObj b).run P w = .ok (.map (entries k L) clock) w := by simp [getObj, Sem.run, hb]
  have h3 := run_checkKey_int (kt := kt) hk.out (entries k L).isEmpty 9999 (.int k i) w
  have h4 := run_findKey_int (k := k) (kt := kt) hk.out i L w
  suffices hrun : ∃ L' clock', Good L' clock' ∧ lk L' = mdel f i ∧ ∀ o : Oper, o.op = .call { callee := .builtin .delete, args := [x, y].toArray, argTypes := [t, ty'].toArray } → (execOp (act n e).eval o).run P w = .ok (.value (.tuple #[])) { w with heap := w.heap.setIfInBounds b (.map (entries k L') clock') } by
    obtain ⟨L', clock', hg', hl', hr⟩ := hrun
    exact wpM_value rfl (hr _ rfl) (q _ (hset L' clock' _ hg' hl'))
  have hpre : ∀ o : Oper, o.op = .call { callee := .builtin .delete, args := [x, y].toArray, argTypes := [t, ty'].toArray } → execOp (act n e).eval o = (do let v ← Builtin.delete_ [t, ty'].toArray o.type #[.map (some b), .int k i]; pure (.value v)) := by
    intro o h1
    unfold execOp; rw [h1]
    simp [resolve, invoke, builtin, hx.out, hy.out]
  cases hi : ix L i 0 with
  | none =>
    have hno := ix_none L i 0 hi
    refine ⟨L, clock, hg, ?_, ?_⟩
    · funext j
      unfold mdel
      rw [← hl]
      split
      · rename_i e; subst e; exact lk_none L _ hno
      · rfl
    · intro o h1
      rw [hpre o h1]
      simp [Builtin.delete_, run_und (t := t), h2, h3, h4, hi, run_setObj_map hb]
  | some p =>
    obtain ⟨m, u⟩ := p
    obtain ⟨r, rfl, bn, hr⟩ := ix_lt L i 0 m u hi
    refine ⟨L.eraseIdx r, clock, hg.erase r, ?_, ?_⟩
    · funext j; rw [lk_erase L r _ j hg.keys hr, hl]; rfl
    · intro o h1
      rw [hpre o h1]
      have her : (entries k L).eraseIdxIfInBounds r = entries k (L.eraseIdx r) := by
        unfold entries
        apply Array.ext'
        simp [eraseIdx_mapped]
      simp [Builtin.delete_, run_und (t := t), h2, h3, h4, hi, run_setObj_map hb, her]

/-- make(map[..]..) -/
theorem sw_makeMap {d : Nat} {t : TypeId} {k : IntKind} {pos : String} {after : Array Edge} (q : ∀ b, SW P ops Q n w0 rest ((d, .map (some b)) :: e) ((b, MapI k b mnil) :: Rs)) :
    SW P ops Q n w0 ({ dst := some d, op := .makeMap t none, type := ty, pos := pos, after := after, guard := none } :: rest) e Rs := by
  intro w hw
  have hr : ∀ o : Oper, o.op = .makeMap t none → (execOp (act n e).eval o).run P w = .ok (.value (.map (some w.heap.size))) { w with heap := w.heap.push (.map #[] 0) } := by
    intro o h1
    unfold execOp; rw [h1]
    simp [Instr.makeMap]
  refine wpM_value rfl (hr _ rfl) ?_
  rw [actM_put]
  refine q w.heap.size _ ?_
  exact (hw.new (.map #[] 0)).ent (Ent.head fun x hp => ⟨[], 0, ⟨⟨by simp, by simp, by simp⟩, rfl⟩, hp⟩)

end
end Go.Gsl
