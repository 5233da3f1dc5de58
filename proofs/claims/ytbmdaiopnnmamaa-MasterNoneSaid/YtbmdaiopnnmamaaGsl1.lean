/- A small separation logic over the model's worlds, and lists of slots by their numbers: the ground of all walks of this repo. -/
import Derived.WalkKit
namespace Go.Gsl
set_option linter.unusedVariables false

/-! ### Heaps and resources -/

/-- Part of the memory: a block, and whether it is held for ever as it is (then it may be held by many). -/
abbrev Hp := Nat → Option (Obj × Bool)
abbrev HProp := Hp → Prop

def hdisj (a b : Hp) : Prop := ∀ k, a k = none ∨ b k = none ∨ ∃ o, a k = some (o, true) ∧ b k = some (o, true)
def hjoin (a b : Hp) : Hp := fun k => (a k).or (b k)

/-- Block 'b' holds just 'o'. -/
def pts (b : Nat) (o : Obj) : HProp := fun h => h b = some (o, false) ∧ ∀ k, k ≠ b → h k = none
/-- Block 'b' holds 'o' for ever. -/
def imm (b : Nat) (o : Obj) : HProp := fun h => h b = some (o, true)

/-- A resource under a key (the block by which it is found). -/
abbrev Res := Nat × HProp

/-- All of them, apart from each other; whatever else there is. -/
def sepL : List Res → HProp
  | [] => fun _ => True
  | r :: rs => fun h => ∃ a b, hdisj a b ∧ h = hjoin a b ∧ r.2 a ∧ sepL rs b

/-- The world's memory has it so. -/
def Fits (h : Hp) (w : World) : Prop := ∀ k o f, h k = some (o, f) → w.heap[k]? = some o

/-- The world's streams are as 'w0' has them; its memory holds the resources. -/
def Sat (w0 : World) (w : World) (Rs : List Res) : Prop :=
  (w.os = w0.os ∧ w.tape = w0.tape ∧ w.output = w0.output) ∧ ∃ h, Fits h w ∧ sepL Rs h

theorem hjoin_comm {a b : Hp} (h : hdisj a b) : hjoin a b = hjoin b a := by
  funext k
  unfold hjoin
  rcases h k with h | h | ⟨o, h, g⟩
  · simp [h]
  · simp [h]
  · simp [h, g]

theorem hdisj_comm {a b : Hp} (h : hdisj a b) : hdisj b a := fun k => by
  rcases h k with h | h | ⟨o, h, g⟩
  · exact .inr (.inl h)
  · exact .inl h
  · exact .inr (.inr ⟨o, g, h⟩)

theorem hjoin_assoc (a b c : Hp) : hjoin (hjoin a b) c = hjoin a (hjoin b c) := by
  funext k; unfold hjoin; simp [Option.or_assoc]

theorem hdisj_join_of {a b c : Hp} (h1 : hdisj a b) (h2 : hdisj a c) : hdisj a (hjoin b c) := by
  intro k
  rcases h1 k with h | h | ⟨o, h, g⟩
  · exact .inl h
  · rcases h2 k with g | g | ⟨o, g, g'⟩
    · exact .inl g
    · exact .inr (.inl (by simp [hjoin, h, g]))
    · exact .inr (.inr ⟨o, g, by simp [hjoin, h, g']⟩)
  · exact .inr (.inr ⟨o, h, by simp [hjoin, g]⟩)

theorem hdisj_join {a b c : Hp} (hbc : hdisj b c) : hdisj a (hjoin b c) ↔ hdisj a b ∧ hdisj a c := by
  constructor
  · intro h
    refine ⟨fun k => ?_, fun k => ?_⟩
    · rcases h k with g | g | ⟨o, g, g'⟩
      · exact .inl g
      · exact .inr (.inl (Option.or_eq_none_iff.1 g).1)
      · unfold hjoin at g'
        cases hb : b k with
        | none => exact .inr (.inl rfl)
        | some x => rw [hb] at g'; simp at g'; subst g'; exact .inr (.inr ⟨o, g, rfl⟩)
    · rcases h k with g | g | ⟨o, g, g'⟩
      · exact .inl g
      · exact .inr (.inl (Option.or_eq_none_iff.1 g).2)
      · unfold hjoin at g'
        rcases hbc k with hb | hc | ⟨o', hb, hc⟩
        · rw [hb] at g'; simp at g'; exact .inr (.inr ⟨o, g, g'⟩)
        · exact .inr (.inl hc)
        · rw [hb] at g'; simp at g'; subst g'; exact .inr (.inr ⟨o', g, hc⟩)
  · rintro ⟨h1, h2⟩; exact hdisj_join_of h1 h2

theorem hdisj_join_l {a b c : Hp} (hab : hdisj a b) : hdisj (hjoin a b) c ↔ hdisj a c ∧ hdisj b c := by
  constructor
  · intro h
    obtain ⟨x, y⟩ := (hdisj_join hab).1 (hdisj_comm h)
    exact ⟨hdisj_comm x, hdisj_comm y⟩
  · rintro ⟨x, y⟩
    exact hdisj_comm (hdisj_join_of (hdisj_comm x) (hdisj_comm y))

/-- What follows from these resources follows from those: the lists' entailment. -/
def Ent (Rs Rs' : List Res) : Prop := ∀ h, sepL Rs h → sepL Rs' h

theorem Ent.refl (Rs : List Res) : Ent Rs Rs := fun _ h => h
theorem Ent.trans {A B C : List Res} (h : Ent A B) (k : Ent B C) : Ent A C := fun _ x => k _ (h _ x)
theorem Ent.cons (r : Res) {A B : List Res} (h : Ent A B) : Ent (r :: A) (r :: B) := by
  rintro x ⟨a, b, hd, rfl, hr, hs⟩
  exact ⟨a, b, hd, rfl, hr, h _ hs⟩
theorem Ent.swap (r s : Res) (A : List Res) : Ent (r :: s :: A) (s :: r :: A) := by
  rintro x ⟨a, b, hd, rfl, hr, c, d, hd2, rfl, hs, hA⟩
  obtain ⟨h1, h2⟩ := (hdisj_join hd2).1 hd
  refine ⟨c, hjoin a d, ?_, ?_, hs, a, d, h2, rfl, hr, hA⟩
  · exact hdisj_join_of (hdisj_comm h1) hd2
  · rw [← hjoin_assoc, ← hjoin_assoc, hjoin_comm h1]
theorem Ent.nil (Rs : List Res) : Ent Rs [] := fun _ _ => trivial

/-- affine: what lies apart may be more. -/
theorem sepL_more : ∀ (A : List Res) {a b : Hp}, hdisj a b → sepL A b → sepL A (hjoin a b)
  | [], _, _, _, _ => trivial
  | r :: A, a, b, hd, h => by
    obtain ⟨c, d, hd2, rfl, hr, hA⟩ := h
    obtain ⟨h1, h2⟩ := (hdisj_join hd2).1 hd
    refine ⟨c, hjoin a d, ?_, ?_, hr, sepL_more A h2 hA⟩
    · exact hdisj_join_of (hdisj_comm h1) hd2
    · rw [← hjoin_assoc, ← hjoin_assoc, hjoin_comm h1]

theorem Ent.drop (r : Res) (A : List Res) : Ent (r :: A) A := by
  rintro x ⟨a, b, hd, rfl, hr, hs⟩
  exact sepL_more A hd hs

/-- 'r' is one of them; the others are 'F'. (Found by its key.) -/
class Take (Rs : List Res) (k : Nat) (r : outParam HProp) (F : outParam (List Res)) : Prop where
  ent : Ent Rs ((k, r) :: F)
  back : Ent ((k, r) :: F) Rs

instance Take.here (k : Nat) (r : HProp) (F : List Res) : Take ((k, r) :: F) k r F := ⟨Ent.refl _, Ent.refl _⟩
instance (priority := 50) Take.there (q : Res) (Rs : List Res) (k : Nat) (r : HProp) (F : List Res) [h : Take Rs k r F] : Take (q :: Rs) k r (q :: F) :=
  ⟨(Ent.cons q h.ent).trans (Ent.swap _ _ _), (Ent.swap _ _ _).trans (Ent.cons q h.back)⟩

/-- The keys' resources, in this order; the others. -/
class Split (Rs : List Res) (ks : List Nat) (rs : outParam (List HProp)) (F : outParam (List Res)) : Prop where
  ent : Ent Rs (ks.zip rs ++ F)

instance Split.nil (Rs : List Res) : Split Rs [] [] Rs := ⟨Ent.refl _⟩
instance Split.cons (Rs : List Res) (k : Nat) (ks : List Nat) (r : HProp) (rs : List HProp) (F1 F : List Res) [h1 : Take Rs k r F1] [h2 : Split F1 ks rs F] : Split Rs (k :: ks) (r :: rs) F :=
  ⟨h1.ent.trans (Ent.cons _ h2.ent)⟩

/-! ### Reading and writing a block -/

theorem sepL_head {b : Nat} {o : Obj} {F : List Res} {k : Nat} {h : Hp} (hs : sepL ((k, pts b o) :: F) h) : h b = some (o, false) := by
  obtain ⟨x, y, _, rfl, hr, _⟩ := hs
  simp [hjoin, hr.1]
theorem sepL_head_imm {b : Nat} {o : Obj} {F : List Res} {k : Nat} {h : Hp} (hs : sepL ((k, imm b o) :: F) h) : h b = some (o, true) := by
  obtain ⟨x, y, _, rfl, hr, _⟩ := hs
  have : x b = some (o, true) := hr
  simp [hjoin, this]

def hset (h : Hp) (b : Nat) (o : Obj × Bool) : Hp := fun k => if k = b then some o else h k

theorem sepL_put {b : Nat} {o : Obj} {o' : Obj × Bool} {F : List Res} {k : Nat} {h : Hp} {R : HProp} (hs : sepL ((k, pts b o) :: F) h) (hR : ∀ x : Hp, x b = some o' → (∀ k, k ≠ b → x k = none) → R x) : sepL ((k, R) :: F) (hset h b o') := by
  obtain ⟨x, y, hd, rfl, hr, hF⟩ := hs
  have hb : y b = none := by
    rcases hd b with h | h | ⟨p, h, _⟩
    · rw [hr.1] at h; cases h
    · exact h
    · rw [hr.1] at h; cases h
  refine ⟨hset x b o', y, ?_, ?_, hR _ (by simp [hset]) ?_, hF⟩
  · intro j
    by_cases hj : j = b
    · subst hj; exact .inr (.inl hb)
    · simp only [hset, hj, if_false]; exact hd j
  · funext j
    by_cases hj : j = b
    · subst hj; simp [hset, hjoin]
    · simp [hset, hjoin, hj]
  · intro j hj; simp only [hset, hj, if_false]; exact hr.2 j hj

theorem Fits.set {h : Hp} {w : World} {b : Nat} {o o' : Obj} {f : Bool} (hf : Fits h w) (hb : w.heap[b]? = some o) : Fits (hset h b (o', f)) { w with heap := w.heap.setIfInBounds b o' } := by
  have hlt : b < w.heap.size := (Array.getElem?_eq_some_iff.1 hb).1
  intro k p g hk
  unfold hset at hk
  show (w.heap.setIfInBounds b o')[k]? = some p
  rw [Array.getElem?_setIfInBounds]
  by_cases hj : k = b
  · subst hj; simp at hk; simp [hlt, hk.1]
  · rw [if_neg hj] at hk
    rw [if_neg (fun e => hj e.symm)]
    exact hf k p g hk

theorem Fits.push {h : Hp} {w : World} {o : Obj} (hf : Fits h w) : hdisj (fun k => if k = w.heap.size then some (o, false) else none) h ∧ Fits (hjoin (fun k => if k = w.heap.size then some (o, false) else none) h) { w with heap := w.heap.push o } := by
  constructor
  · intro k
    by_cases hk : k = w.heap.size
    · right; left
      cases hh : h k with
      | none => rfl
      | some p =>
        have := hf k p.1 p.2 hh
        have := (Array.getElem?_eq_some_iff.1 this).1
        omega
    · left; simp [hk]
  · intro k p g hk
    unfold hjoin at hk
    show (w.heap.push o)[k]? = some p
    rw [Array.getElem?_push]
    by_cases hj : k = w.heap.size
    · simp [hj] at hk ⊢; exact hk.1
    · simp [hj] at hk ⊢; exact hf k p g hk

namespace Sat
variable {w0 w : World} {Rs Rs' F : List Res} {b k : Nat} {o o' : Obj}

theorem ent (h : Sat w0 w Rs) (e : Ent Rs Rs') : Sat w0 w Rs' := by
  obtain ⟨h1, x, hf, hs⟩ := h
  exact ⟨h1, x, hf, e _ hs⟩

theorem get (h : Sat w0 w Rs) (t : Take Rs b (pts b o) F) : w.heap[b]? = some o := by
  obtain ⟨h1, x, hf, hs⟩ := h
  exact hf b o false (sepL_head (t.ent _ hs))
theorem get_imm (h : Sat w0 w Rs) (t : Take Rs k (imm b o) F) : w.heap[b]? = some o := by
  obtain ⟨h1, x, hf, hs⟩ := h
  exact hf b o true (sepL_head_imm (t.ent _ hs))

theorem set (h : Sat w0 w Rs) (t : Take Rs b (pts b o) F) (o' : Obj) : Sat w0 { w with heap := w.heap.setIfInBounds b o' } ((b, pts b o') :: F) := by
  have hb := h.get t
  obtain ⟨h1, x, hf, hs⟩ := h
  exact ⟨h1, _, hf.set (f := false) hb, sepL_put (t.ent _ hs) fun x h1 h2 => ⟨h1, h2⟩⟩

/-- held for ever from here on -/
theorem freeze (h : Sat w0 w Rs) (t : Take Rs b (pts b o) F) : Sat w0 w ((b, imm b o) :: F) := by
  obtain ⟨h1, x, hf, hs⟩ := h
  refine ⟨h1, hset x b (o, true), ?_, sepL_put (t.ent _ hs) fun x h1 _ => h1⟩
  have hb := sepL_head (t.ent _ hs)
  intro k p g hk
  unfold hset at hk
  by_cases hj : k = b
  · subst hj; simp at hk; rw [← hk.1]; exact hf _ _ _ hb
  · rw [if_neg hj] at hk; exact hf k p g hk

theorem new (h : Sat w0 w Rs) (o : Obj) : Sat w0 { w with heap := w.heap.push o } ((w.heap.size, pts w.heap.size o) :: Rs) := by
  obtain ⟨h1, x, hf, hs⟩ := h
  obtain ⟨h2, h3⟩ := hf.push (o := o)
  exact ⟨h1, _, h3, _, _, h2, rfl, ⟨by simp, fun k hk => by simp [hk]⟩, hs⟩

theorem draw (h : Sat w0 w Rs) (n : Nat) : Sat w0 { w with drawn := n } Rs := h

/-- Blocks of two resources are two. -/
theorem ne {b c : Nat} {o p : Obj} {F G : List Res} (h : Sat w0 w Rs) (t : Take Rs b (pts b o) F) (s : Take F c (pts c p) G) : b ≠ c := by
  rintro rfl
  obtain ⟨_, z, _, hs⟩ := h
  obtain ⟨x, y, hd, _, hr, hF⟩ := t.ent _ hs
  have := sepL_head (s.ent _ hF)
  rcases hd b with h | h | ⟨q, h, _⟩
  · rw [hr.1] at h; cases h
  · rw [this] at h; cases h
  · rw [hr.1] at h; cases h
end Sat

theorem Ent.head {k : Nat} {r r' : HProp} {F : List Res} (h : ∀ x, r x → r' x) : Ent ((k, r) :: F) ((k, r') :: F) := by
  rintro y ⟨a, b, hd, rfl, hr, hs⟩
  exact ⟨a, b, hd, rfl, h _ hr, hs⟩
theorem Sat.opn {α : Type} {w0 w : World} {k : Nat} {r : HProp} {F : List Res} {φ : α → Prop} {p : α → HProp} (h : Sat w0 w ((k, r) :: F)) (ho : ∀ x, r x → ∃ a, φ a ∧ p a x) : ∃ a, φ a ∧ Sat w0 w ((k, p a) :: F) := by
  obtain ⟨h1, z, hf, x, y, hd, hj, hr, hF⟩ := h
  obtain ⟨a, h2, h3⟩ := ho x hr
  exact ⟨a, h2, h1, z, hf, x, y, hd, hj, h3, hF⟩

/-- What is held for ever may be held twice. -/
theorem Ent.imm_dup {b k : Nat} {o : Obj} {F : List Res} : Ent ((k, imm b o) :: F) ((k, imm b o) :: (k, imm b o) :: F) := by
  rintro h ⟨x, y, hd, rfl, hr, hF⟩
  have hx : x b = some (o, true) := hr
  refine ⟨fun j => if j = b then some (o, true) else none, hjoin x y, ?_, ?_, by simp [imm], x, y, hd, rfl, hr, hF⟩
  · intro j
    by_cases hj : j = b
    · subst hj; exact .inr (.inr ⟨o, by simp, by simp [hjoin, hx]⟩)
    · exact .inl (by simp [hj])
  · funext j
    by_cases hj : j = b
    · subst hj; simp [hjoin, hx]
    · simp [hjoin, hj]

/-! ### Resources that are made of others -/

/-- A fact, as a resource. -/
def hpure (p : Prop) : HProp := fun _ => p
/-- Some of a family. -/
def hex {α : Type} (R : α → HProp) : HProp := fun h => ∃ x, R x h
/-- Several, under one key. -/
def hall (L : List Res) : HProp := fun h => sepL L h
/-- a fact beside resources -/
def hand (p : Prop) (R : HProp) : HProp := fun h => p ∧ R h

theorem Ent.open_pure {p : Prop} {k : Nat} {F : List Res} {h : Hp} (hs : sepL ((k, hpure p) :: F) h) : p ∧ sepL F h := by
  obtain ⟨x, y, hd, rfl, hr, hF⟩ := hs
  exact ⟨hr, sepL_more F hd hF⟩

theorem sepL_append : ∀ (A B : List Res) (h : Hp), sepL (A ++ B) h ↔ ∃ a b, hdisj a b ∧ h = hjoin a b ∧ sepL A a ∧ sepL B b
  | [], B, h => by
    constructor
    · intro hB; exact ⟨fun _ => none, h, fun _ => .inl rfl, by funext k; simp [hjoin], trivial, hB⟩
    · rintro ⟨a, b, hd, rfl, _, hB⟩; exact sepL_more B hd hB
  | r :: A, B, h => by
    constructor
    · rintro ⟨a, b, hd, rfl, hr, hs⟩
      obtain ⟨c, d, hd2, rfl, hA, hB⟩ := (sepL_append A B b).1 hs
      obtain ⟨h1, h2⟩ := (hdisj_join hd2).1 hd
      exact ⟨hjoin a c, d, (hdisj_join_l h1).2 ⟨h2, hd2⟩, (hjoin_assoc _ _ _).symm, ⟨a, c, h1, rfl, hr, hA⟩, hB⟩
    · rintro ⟨a, d, hd, rfl, ⟨x, c, h1, rfl, hr, hA⟩, hB⟩
      obtain ⟨h2, hd2⟩ := (hdisj_join_l h1).1 hd
      exact ⟨x, hjoin c d, hdisj_join_of h1 h2, hjoin_assoc _ _ _, hr, (sepL_append A B _).2 ⟨c, d, hd2, rfl, hA, hB⟩⟩

theorem Ent.hall_open (k : Nat) (L F : List Res) : Ent ((k, hall L) :: F) (L ++ F) := by
  rintro h ⟨a, b, hd, rfl, hr, hF⟩
  exact (sepL_append L F _).2 ⟨a, b, hd, rfl, hr, hF⟩

theorem Ent.hall_close (k : Nat) (L F : List Res) : Ent (L ++ F) ((k, hall L) :: F) := by
  intro h hs
  obtain ⟨a, b, hd, rfl, hr, hF⟩ := (sepL_append L F _).1 hs
  exact ⟨a, b, hd, rfl, hr, hF⟩

theorem Ent.append {A B C D : List Res} (h : Ent A B) (k : Ent C D) : Ent (A ++ C) (B ++ D) := by
  intro x hs
  obtain ⟨a, b, hd, rfl, hA, hC⟩ := (sepL_append A C _).1 hs
  exact (sepL_append B D _).2 ⟨a, b, hd, rfl, h _ hA, k _ hC⟩

/-- Close an entailment piece by piece: take what the goal's first key names. -/
theorem Ent.take {Rs F Rs' : List Res} {k : Nat} {r r' : HProp} [t : Take Rs k r F] (e : ∀ h, r h → r' h) (hF : Ent F Rs') : Ent Rs ((k, r') :: Rs') := by
  refine t.ent.trans ?_
  rintro h ⟨a, b, hd, rfl, hr, hs⟩
  exact ⟨a, b, hd, rfl, e _ hr, hF _ hs⟩

theorem Ent.take_eq {Rs F Rs' : List Res} {k : Nat} {r r' : HProp} [t : Take Rs k r F] (e : r = r') (hF : Ent F Rs') : Ent Rs ((k, r') :: Rs') := by
  subst e; exact Ent.take (fun _ h => h) hF

/-- Put several together under one key. -/
theorem Ent.fold {Rs Rs' : List Res} {k : Nat} {L F : List Res} (h : Ent Rs (L ++ F)) (hF : Ent F Rs') : Ent Rs ((k, hall L) :: Rs') :=
  h.trans ((Ent.hall_close k L F).trans (Ent.cons _ hF))

theorem Ent.fold_ex {α : Type} {Rs Rs' : List Res} {k : Nat} {R : α → HProp} (x : α) (h : Ent Rs ((k, R x) :: Rs')) : Ent Rs ((k, hex R) :: Rs') := by
  refine h.trans ?_
  rintro h ⟨a, b, hd, rfl, hr, hs⟩
  exact ⟨a, b, hd, rfl, ⟨x, hr⟩, hs⟩

theorem Ent.fold_and {Rs Rs' : List Res} {k : Nat} {p : Prop} {R : HProp} (hp : p) (h : Ent Rs ((k, R) :: Rs')) : Ent Rs ((k, hand p R) :: Rs') := by
  refine h.trans ?_
  rintro h ⟨a, b, hd, rfl, hr, hs⟩
  exact ⟨a, b, hd, rfl, ⟨hp, hr⟩, hs⟩

/-! ### Slots -/

abbrev Env := List (Nat × Value)

def look : Env → Nat → Value
  | [], _ => undef
  | (k, v) :: e, i => if k = i then v else look e i

def slots (n : Nat) (e : Env) : Array Value := Array.ofFn (n := n) fun i => look e i.val
def act (n : Nat) (e : Env) : Act := { tmps := slots n e, defers := [] }

theorem slots_size (n : Nat) (e : Env) : (slots n e).size = n := by simp [slots]
theorem slots_getElem? (n : Nat) (e : Env) (i : Nat) (h : i < n) : (slots n e)[i]? = some (look e i) := by
  simp [slots, h]
theorem slots_getD (n : Nat) (e : Env) (i : Nat) (h : i < n) : (slots n e).getD i undef = look e i := by
  simp [slots, Array.getD_eq_getD_getElem?, h]

theorem slots_set (n : Nat) (e : Env) (d : Nat) (v : Value) : (slots n e).setIfInBounds d v = slots n ((d, v) :: e) := by
  apply Array.ext_getElem?
  intro i
  rw [Array.getElem?_setIfInBounds]
  by_cases hi : i < n
  · rw [slots_getElem? n _ i hi, slots_getElem? n _ i hi]
    by_cases hd : d = i
    · subst hd; simp [look, slots_size, hi]
    · simp [look, hd]
  · have h1 : (slots n e)[i]? = none := by simp [slots, hi]
    have h2 : (slots n ((d, v) :: e))[i]? = none := by simp [slots, hi]
    rw [h1, h2]
    split
    · rename_i h
      rw [slots_size]
      split
      · omega
      · rfl
    · rfl

theorem act_put (n : Nat) (e : Env) (d : Nat) (v : Value) : (act n e).put (some d) v = act n ((d, v) :: e) := by
  simp [act, Act.put, slots_set]
theorem act_put_none (n : Nat) (e : Env) (v : Value) : (act n e).put none v = act n e := rfl

/-- Slots that say what they said. -/
theorem slots_congr {n : Nat} {e e' : Env} (h : ∀ i, i < n → look e i = look e' i) : slots n e = slots n e' := by
  apply Array.ext_getElem?
  intro i
  by_cases hi : i < n
  · rw [slots_getElem? n _ i hi, slots_getElem? n _ i hi, h i hi]
  · have h1 : (slots n e)[i]? = none := by simp [slots, hi]
    have h2 : (slots n e')[i]? = none := by simp [slots, hi]
    rw [h1, h2]

def says (e : Env) : Env → Prop
  | [] => True
  | (k, v) :: l => look e k = v ∧ says e l

theorem look_says {e : Env} : ∀ (l : Env), says e l → ∀ i, look (l ++ e) i = look e i
  | [], _, _ => rfl
  | (k, v) :: l, h, i => by
    simp only [List.cons_append, look]
    split
    · rename_i hk; subst hk; exact h.1.symm
    · exact look_says l h.2 i

theorem act_says {n : Nat} {e l : Env} (h : says e l) : act n e = act n (l ++ e) := by
  unfold act
  rw [slots_congr (e := e) (e' := l ++ e) fun i _ => (look_says l h i).symm]

/-! A literal's test, for instances. -/
class EvB (x r : Bool) : Prop where out : x = r
instance (r : Bool) : EvB r r := ⟨rfl⟩
class BNe (b c : Bool) : Prop where out : b ≠ c
instance : BNe true false := ⟨by simp⟩
instance : BNe false true := ⟨by simp⟩
class Lt (a b : Nat) : Prop where out : a < b
instance Lt.lit (a b : Nat) [h : EvB (Nat.ble b a) false] : Lt a b := ⟨by
  have := h.out
  rcases Nat.lt_or_ge a b with g | g
  · exact g
  · rw [Nat.ble_eq_true_of_le g] at this; cases this⟩

class Lk (e : Env) (t : Nat) (v : outParam Value) : Prop where out : look e t = v
instance Lk.here (t : Nat) (v : Value) (e : Env) : Lk ((t, v) :: e) t v := ⟨by simp [look]⟩
instance (priority := 50) Lk.there (k : Nat) (u : Value) (e : Env) (t : Nat) (v : Value) [h : Lk e t v] [hk : EvB (Nat.beq k t) false] : Lk ((k, u) :: e) t v :=
  ⟨by have := Nat.ne_of_beq_eq_false hk.out; simp [look, this, h.out]⟩

instance (priority := 60) Lk.there4 (k0 k1 k2 k3 : Nat) (u0 u1 u2 u3 : Value) (e : Env) (t : Nat) (v : Value) [h : Lk e t v] [hk : EvB (Nat.beq (Nat.mul (Nat.mul (Nat.mul (Nat.add (Nat.sub k0 t) (Nat.sub t k0)) (Nat.add (Nat.sub k1 t) (Nat.sub t k1))) (Nat.add (Nat.sub k2 t) (Nat.sub t k2))) (Nat.add (Nat.sub k3 t) (Nat.sub t k3))) 0) false] : Lk ((k0, u0) :: (k1, u1) :: (k2, u2) :: (k3, u3) :: e) t v :=
  ⟨by
    have h0 := Nat.ne_of_beq_eq_false hk.out
    have hne : k0 ≠ t ∧ k1 ≠ t ∧ k2 ≠ t ∧ k3 ≠ t := by
      refine ⟨?_, ?_, ?_, ?_⟩ <;> (rintro rfl; apply h0; simp)
    simp [look, hne, h.out]⟩
instance (priority := 70) Lk.there8 (k0 k1 k2 k3 k4 k5 k6 k7 : Nat) (u0 u1 u2 u3 u4 u5 u6 u7 : Value) (e : Env) (t : Nat) (v : Value) [h : Lk e t v] [hk : EvB (Nat.beq (Nat.mul (Nat.mul (Nat.mul (Nat.mul (Nat.mul (Nat.mul (Nat.mul (Nat.add (Nat.sub k0 t) (Nat.sub t k0)) (Nat.add (Nat.sub k1 t) (Nat.sub t k1))) (Nat.add (Nat.sub k2 t) (Nat.sub t k2))) (Nat.add (Nat.sub k3 t) (Nat.sub t k3))) (Nat.add (Nat.sub k4 t) (Nat.sub t k4))) (Nat.add (Nat.sub k5 t) (Nat.sub t k5))) (Nat.add (Nat.sub k6 t) (Nat.sub t k6))) (Nat.add (Nat.sub k7 t) (Nat.sub t k7))) 0) false] : Lk ((k0, u0) :: (k1, u1) :: (k2, u2) :: (k3, u3) :: (k4, u4) :: (k5, u5) :: (k6, u6) :: (k7, u7) :: e) t v :=
  ⟨by
    have h0 := Nat.ne_of_beq_eq_false hk.out
    have hne : k0 ≠ t ∧ k1 ≠ t ∧ k2 ≠ t ∧ k3 ≠ t ∧ k4 ≠ t ∧ k5 ≠ t ∧ k6 ≠ t ∧ k7 ≠ t := by
      refine ⟨?_, ?_, ?_, ?_, ?_, ?_, ?_, ?_⟩ <;> (rintro rfl; apply h0; simp)
    simp [look, hne, h.out]⟩

/-- What an operand is worth. -/
class Ev (n : Nat) (e : Env) (x : Operand) (v : outParam Value) : Prop where out : (act n e).eval x = v
instance Ev.const (n : Nat) (e : Env) (v : Value) : Ev n e (.const v) v := ⟨rfl⟩
instance Ev.func (n : Nat) (e : Env) (f : FuncId) : Ev n e (.func f) (.func (.func f) #[] #[]) := ⟨rfl⟩
instance Ev.global (n : Nat) (e : Env) (g : Nat) : Ev n e (.global g) (.pointer (some ⟨g, 0, none⟩)) := ⟨rfl⟩
instance Ev.tmp (n : Nat) (e : Env) (t : Nat) (v : Value) [h : Lk e t v] [hn : Lt t n] : Ev n e (.tmp t) v :=
  ⟨by
    have := hn.out
    simp [Act.eval, act, slots_getD n e t this, h.out]⟩

class EvL (n : Nat) (e : Env) (xs : List Operand) (vs : outParam (List Value)) : Prop where out : xs.map (act n e).eval = vs
instance EvL.nil (n : Nat) (e : Env) : EvL n e [] [] := ⟨rfl⟩
instance EvL.cons (n : Nat) (e : Env) (x : Operand) (xs : List Operand) (v : Value) (vs : List Value) [h : Ev n e x v] [h2 : EvL n e xs vs] : EvL n e (x :: xs) (v :: vs) :=
  ⟨by simp [h.out, h2.out]⟩

/-- an activation that holds marks of loops over functions -/
def actM (m : List Deferred) (n : Nat) (e : Env) : Act := { tmps := slots n e, defers := m }
theorem actM_nil (n : Nat) (e : Env) : actM [] n e = act n e := rfl
theorem actM_eval (m : List Deferred) (n : Nat) (e : Env) : (actM m n e).eval = (act n e).eval := rfl
theorem actM_tmps (m : List Deferred) (n : Nat) (e : Env) : (actM m n e).tmps = (act n e).tmps := rfl
theorem actM_put (m : List Deferred) (n : Nat) (e : Env) (d : Nat) (v : Value) : (actM m n e).put (some d) v = actM m n ((d, v) :: e) := by
  simp [actM, Act.put, slots_set]
theorem actM_put_none (m : List Deferred) (n : Nat) (e : Env) (v : Value) : (actM m n e).put none v = actM m n e := rfl
theorem actM_says {m : List Deferred} {n : Nat} {e l : Env} (h : says e l) : actM m n e = actM m n (l ++ e) := by
  unfold actM
  rw [slots_congr (e := e) (e' := l ++ e) fun i _ => (look_says l h i).symm]

end Go.Gsl
