/- A small separation logic over the model's worlds, and lists of slots by their numbers: the ground of all walks of this repo. -/
import Derived.WalkKit
import Derived.TacticsIn
import Derived.RangeFuncLeaves
import Derived.RangeFuncIn
import Derived.RangeFuncCalls
import Derived.OrdersIn
import Derived.ProofKit
import Derived.Deep.Slices
import Derived.Below
import Derived.RangeFuncNested
import Derived.Maps.AppendAt
import Derived.OwnWalk
import Derived.Lib.MakeNoZero
namespace Go.Gsl
set_option linter.unusedVariables false

/-! ### Heaps and resources -/

/-- Part of the memory: a block, and whether it is held for ever as it is (then it may be held by many). -/
abbrev Hp := Nat → Option (Obj × Bool)
abbrev HProp := Hp → Prop

def hdisj (a b : Hp) : Prop := ∀ k, a k = none ∨ b k = none ∨ ∃ o, a k = some (o, true) ∧ b k = some (o, true)
def hjoin (a b : Hp) : Hp := fun k => (a k).or (b k)

/-- Block 'b' holds just 'o'. -/
def pts (b : Nat) (o : Obj) : HProp := fun h => h b = some (o, false) ∧ ∀ k, k ≠ b → h k = none
/-- Block 'b' holds 'o' for ever. -/
def imm (b : Nat) (o : Obj) : HProp := fun h => h b = some (o, true)

/-- A resource under a key (the block by which it is found). -/
abbrev Res := Nat × HProp

/-- All of them, apart from each other; whatever else there is. -/
def sepL : List Res → HProp
  | [] => fun _ => True
  | r :: rs => fun h => ∃ a b, hdisj a b ∧ h = hjoin a b ∧ r.2 a ∧ sepL rs b

/-- The world's memory has it so. -/
def Fits (h : Hp) (w : World) : Prop := ∀ k o f, h k = some (o, f) → w.heap[k]? = some o

/-- The world's streams are as 'w0' has them; its memory holds the resources. -/
def Sat (w0 : World) (w : World) (Rs : List Res) : Prop :=
  (w.os = w0.os ∧ w.tape = w0.tape ∧ w.output = w0.output) ∧ ∃ h, Fits h w ∧ sepL Rs h

theorem hjoin_comm {a b : Hp} (h : hdisj a b) : hjoin a b = hjoin b a := by
  funext k
  unfold hjoin
  rcases h k with h | h | ⟨o, h, g⟩
  · simp [h]
  · simp [h]
  · simp [h, g]

theorem hdisj_comm {a b : Hp} (h : hdisj a b) : hdisj b a := fun k => by
  rcases h k with h | h | ⟨o, h, g⟩
  · exact .inr (.inl h)
  · exact .inl h
  · exact .inr (.inr ⟨o, g, h⟩)

theorem hjoin_assoc (a b c : Hp) : hjoin (hjoin a b) c = hjoin a (hjoin b c) := by
  funext k; unfold hjoin; simp [Option.or_assoc]

theorem hdisj_join_of {a b c : Hp} (h1 : hdisj a b) (h2 : hdisj a c) : hdisj a (hjoin b c) := by
  intro k
  rcases h1 k with h | h | ⟨o, h, g⟩
  · exact .inl h
  · rcases h2 k with g | g | ⟨o, g, g'⟩
    · exact .inl g
    · exact .inr (.inl (by simp [hjoin, h, g]))
    · exact .inr (.inr ⟨o, g, by simp [hjoin, h, g']⟩)
  · exact .inr (.inr ⟨o, h, by simp [hjoin, g]⟩)

theorem hdisj_join {a b c : Hp} (hbc : hdisj b c) : hdisj a (hjoin b c) ↔ hdisj a b ∧ hdisj a c := by
  constructor
  · intro h
    refine ⟨fun k => ?_, fun k => ?_⟩
    · rcases h k with g | g | ⟨o, g, g'⟩
      · exact .inl g
      · exact .inr (.inl (Option.or_eq_none_iff.1 g).1)
      · unfold hjoin at g'
        cases hb : b k with
        | none => exact .inr (.inl rfl)
        | some x => rw [hb] at g'; simp at g'; subst g'; exact .inr (.inr ⟨o, g, rfl⟩)
    · rcases h k with g | g | ⟨o, g, g'⟩
      · exact .inl g
      · exact .inr (.inl (Option.or_eq_none_iff.1 g).2)
      · unfold hjoin at g'
        rcases hbc k with hb | hc | ⟨o', hb, hc⟩
        · rw [hb] at g'; simp at g'; exact .inr (.inr ⟨o, g, g'⟩)
        · exact .inr (.inl hc)
        · rw [hb] at g'; simp at g'; subst g'; exact .inr (.inr ⟨o', g, hc⟩)
  · rintro ⟨h1, h2⟩; exact hdisj_join_of h1 h2

theorem hdisj_join_l {a b c : Hp} (hab : hdisj a b) : hdisj (hjoin a b) c ↔ hdisj a c ∧ hdisj b c := by
  constructor
  · intro h
    obtain ⟨x, y⟩ := (hdisj_join hab).1 (hdisj_comm h)
    exact ⟨hdisj_comm x, hdisj_comm y⟩
  · rintro ⟨x, y⟩
    exact hdisj_comm (hdisj_join_of (hdisj_comm x) (hdisj_comm y))

/-- What follows from these resources follows from those: the lists' entailment. -/
def Ent (Rs Rs' : List Res) : Prop := ∀ h, sepL Rs h → sepL Rs' h

theorem Ent.refl (Rs : List Res) : Ent Rs Rs := fun _ h => h
theorem Ent.trans {A B C : List Res} (h : Ent A B) (k : Ent B C) : Ent A C := fun _ x => k _ (h _ x)
theorem Ent.cons (r : Res) {A B : List Res} (h : Ent A B) : Ent (r :: A) (r :: B) := by
  rintro x ⟨a, b, hd, rfl, hr, hs⟩
  exact ⟨a, b, hd, rfl, hr, h _ hs⟩
theorem Ent.swap (r s : Res) (A : List Res) : Ent (r :: s :: A) (s :: r :: A) := by
  rintro x ⟨a, b, hd, rfl, hr, c, d, hd2, rfl, hs, hA⟩
  obtain ⟨h1, h2⟩ := (hdisj_join hd2).1 hd
  refine ⟨c, hjoin a d, ?_, ?_, hs, a, d, h2, rfl, hr, hA⟩
  · exact hdisj_join_of (hdisj_comm h1) hd2
  · rw [← hjoin_assoc, ← hjoin_assoc, hjoin_comm h1]
theorem Ent.nil (Rs : List Res) : Ent Rs [] := fun _ _ => trivial

/-- affine: what lies apart may be more. -/
theorem sepL_more : ∀ (A : List Res) {a b : Hp}, hdisj a b → sepL A b → sepL A (hjoin a b)
  | [], _, _, _, _ => trivial
  | r :: A, a, b, hd, h => by
    obtain ⟨c, d, hd2, rfl, hr, hA⟩ := h
    obtain ⟨h1, h2⟩ := (hdisj_join hd2).1 hd
    refine ⟨c, hjoin a d, ?_, ?_, hr, sepL_more A h2 hA⟩
    · exact hdisj_join_of (hdisj_comm h1) hd2
    · rw [← hjoin_assoc, ← hjoin_assoc, hjoin_comm h1]

theorem Ent.drop (r : Res) (A : List Res) : Ent (r :: A) A := by
  rintro x ⟨a, b, hd, rfl, hr, hs⟩
  exact sepL_more A hd hs

/-- 'r' is one of them; the others are 'F'. (Found by its key.) -/
class Take (Rs : List Res) (k : Nat) (r : outParam HProp) (F : outParam (List Res)) : Prop where
  ent : Ent Rs ((k, r) :: F)
  back : Ent ((k, r) :: F) Rs

instance Take.here (k : Nat) (r : HProp) (F : List Res) : Take ((k, r) :: F) k r F := ⟨Ent.refl _, Ent.refl _⟩
instance (priority := 50) Take.there (q : Res) (Rs : List Res) (k : Nat) (r : HProp) (F : List Res) [h : Take Rs k r F] : Take (q :: Rs) k r (q :: F) :=
  ⟨(Ent.cons q h.ent).trans (Ent.swap _ _ _), (Ent.swap _ _ _).trans (Ent.cons q h.back)⟩

/-- The keys' resources, in this order; the others. -/
class Split (Rs : List Res) (ks : List Nat) (rs : outParam (List HProp)) (F : outParam (List Res)) : Prop where
  ent : Ent Rs (ks.zip rs ++ F)

instance Split.nil (Rs : List Res) : Split Rs [] [] Rs := ⟨Ent.refl _⟩
instance Split.cons (Rs : List Res) (k : Nat) (ks : List Nat) (r : HProp) (rs : List HProp) (F1 F : List Res) [h1 : Take Rs k r F1] [h2 : Split F1 ks rs F] : Split Rs (k :: ks) (r :: rs) F :=
  ⟨h1.ent.trans (Ent.cons _ h2.ent)⟩

/-! ### Reading and writing a block -/

theorem sepL_head {b : Nat} {o : Obj} {F : List Res} {k : Nat} {h : Hp} (hs : sepL ((k, pts b o) :: F) h) : h b = some (o, false) := by
  obtain ⟨x, y, _, rfl, hr, _⟩ := hs
  simp [hjoin, hr.1]
theorem sepL_head_imm {b : Nat} {o : Obj} {F : List Res} {k : Nat} {h : Hp} (hs : sepL ((k, imm b o) :: F) h) : h b = some (o, true) := by
  obtain ⟨x, y, _, rfl, hr, _⟩ := hs
  have : x b = some (o, true) := hr
  simp [hjoin, this]

def hset (h : Hp) (b : Nat) (o : Obj × Bool) : Hp := fun k => if k = b then some o else h k

theorem sepL_put {b : Nat} {o : Obj} {o' : Obj × Bool} {F : List Res} {k : Nat} {h : Hp} {R : HProp} (hs : sepL ((k, pts b o) :: F) h) (hR : ∀ x : Hp, x b = some o' → (∀ k, k ≠ b → x k = none) → R x) : sepL ((k, R) :: F) (hset h b o') := by
  obtain ⟨x, y, hd, rfl, hr, hF⟩ := hs
  have hb : y b = none := by
    rcases hd b with h | h | ⟨p, h, _⟩
    · rw [hr.1] at h; cases h
    · exact h
    · rw [hr.1] at h; cases h
  refine ⟨hset x b o', y, ?_, ?_, hR _ (by simp [hset]) ?_, hF⟩
  · intro j
    by_cases hj : j = b
    · subst hj; exact .inr (.inl hb)
    · simp only [hset, hj, if_false]; exact hd j
  · funext j
    by_cases hj : j = b
    · subst hj; simp [hset, hjoin]
    · simp [hset, hjoin, hj]
  · intro j hj; simp only [hset, hj, if_false]; exact hr.2 j hj

theorem Fits.set {h : Hp} {w : World} {b : Nat} {o o' : Obj} {f : Bool} (hf : Fits h w) (hb : w.heap[b]? = some o) : Fits (hset h b (o', f)) { w with heap := w.heap.setIfInBounds b o' } := by
  have hlt : b < w.heap.size := (Array.getElem?_eq_some_iff.1 hb).1
  intro k p g hk
  unfold hset at hk
  show (w.heap.setIfInBounds b o')[k]? = some p
  rw [Array.getElem?_setIfInBounds]
  by_cases hj : k = b
  · subst hj; simp at hk; simp [hlt, hk.1]
  · rw [if_neg hj] at hk
    rw [if_neg (fun e => hj e.symm)]
    exact hf k p g hk

theorem Fits.push {h : Hp} {w : World} {o : Obj} (hf : Fits h w) : hdisj (fun k => if k = w.heap.size then some (o, false) else none) h ∧ Fits (hjoin (fun k => if k = w.heap.size then some (o, false) else none) h) { w with heap := w.heap.push o } := by
  constructor
  · intro k
    by_cases hk : k = w.heap.size
    · right; left
      cases hh : h k with
      | none => rfl
      | some p =>
        have := hf k p.1 p.2 hh
        have := (Array.getElem?_eq_some_iff.1 this).1
        omega
    · left; simp [hk]
  · intro k p g hk
    unfold hjoin at hk
    show (w.heap.push o)[k]? = some p
    rw [Array.getElem?_push]
    by_cases hj : k = w.heap.size
    · simp [hj] at hk ⊢; exact hk.1
    · simp [hj] at hk ⊢; exact hf k p g hk

namespace Sat
variable {w0 w : World} {Rs Rs' F : List Res} {b k : Nat} {o o' : Obj}

theorem ent (h : Sat w0 w Rs) (e : Ent Rs Rs') : Sat w0 w Rs' := by
  obtain ⟨h1, x, hf, hs⟩ := h
  exact ⟨h1, x, hf, e _ hs⟩

theorem get (h : Sat w0 w Rs) (t : Take Rs b (pts b o) F) : w.heap[b]? = some o := by
  obtain ⟨h1, x, hf, hs⟩ := h
  exact hf b o false (sepL_head (t.ent _ hs))
theorem get_imm (h : Sat w0 w Rs) (t : Take Rs k (imm b o) F) : w.heap[b]? = some o := by
  obtain ⟨h1, x, hf, hs⟩ := h
  exact hf b o true (sepL_head_imm (t.ent _ hs))

theorem set (h : Sat w0 w Rs) (t : Take Rs b (pts b o) F) (o' : Obj) : Sat w0 { w with heap := w.heap.setIfInBounds b o' } ((b, pts b o') :: F) := by
  have hb := h.get t
  obtain ⟨h1, x, hf, hs⟩ := h
  exact ⟨h1, _, hf.set (f := false) hb, sepL_put (t.ent _ hs) fun x h1 h2 => ⟨h1, h2⟩⟩

/-- held for ever from here on -/
theorem freeze (h : Sat w0 w Rs) (t : Take Rs b (pts b o) F) : Sat w0 w ((b, imm b o) :: F) := by
  obtain ⟨h1, x, hf, hs⟩ := h
  refine ⟨h1, hset x b (o, true), ?_, sepL_put (t.ent _ hs) fun x h1 _ => h1⟩
  have hb := sepL_head (t.ent _ hs)
  intro k p g hk
  unfold hset at hk
  by_cases hj : k = b
  · subst hj; simp at hk; rw [← hk.1]; exact hf _ _ _ hb
  · rw [if_neg hj] at hk; exact hf k p g hk

theorem new (h : Sat w0 w Rs) (o : Obj) : Sat w0 { w with heap := w.heap.push o } ((w.heap.size, pts w.heap.size o) :: Rs) := by
  obtain ⟨h1, x, hf, hs⟩ := h
  obtain ⟨h2, h3⟩ := hf.push (o := o)
  exact ⟨h1, _, h3, _, _, h2, rfl, ⟨by simp, fun k hk => by simp [hk]⟩, hs⟩

theorem draw (h : Sat w0 w Rs) (n : Nat) : Sat w0 { w with drawn := n } Rs := h

/-- Blocks of two resources are two. -/
theorem ne {b c : Nat} {o p : Obj} {F G : List Res} (h : Sat w0 w Rs) (t : Take Rs b (pts b o) F) (s : Take F c (pts c p) G) : b ≠ c := by
  rintro rfl
  obtain ⟨_, z, _, hs⟩ := h
  obtain ⟨x, y, hd, _, hr, hF⟩ := t.ent _ hs
  have := sepL_head (s.ent _ hF)
  rcases hd b with h | h | ⟨q, h, _⟩
  · rw [hr.1] at h; cases h
  · rw [this] at h; cases h
  · rw [hr.1] at h; cases h
end Sat

theorem Ent.head {k : Nat} {r r' : HProp} {F : List Res} (h : ∀ x, r x → r' x) : Ent ((k, r) :: F) ((k, r') :: F) := by
  rintro y ⟨a, b, hd, rfl, hr, hs⟩
  exact ⟨a, b, hd, rfl, h _ hr, hs⟩
theorem Sat.opn {α : Type} {w0 w : World} {k : Nat} {r : HProp} {F : List Res} {φ : α → Prop} {p : α → HProp} (h : Sat w0 w ((k, r) :: F)) (ho : ∀ x, r x → ∃ a, φ a ∧ p a x) : ∃ a, φ a ∧ Sat w0 w ((k, p a) :: F) := by
  obtain ⟨h1, z, hf, x, y, hd, hj, hr, hF⟩ := h
  obtain ⟨a, h2, h3⟩ := ho x hr
  exact ⟨a, h2, h1, z, hf, x, y, hd, hj, h3, hF⟩

/-- What is held for ever may be held twice. -/
theorem Ent.imm_dup {b k : Nat} {o : Obj} {F : List Res} : Ent ((k, imm b o) :: F) ((k, imm b o) :: (k, imm b o) :: F) := by
  rintro h ⟨x, y, hd, rfl, hr, hF⟩
  have hx : x b = some (o, true) := hr
  refine ⟨fun j => if j = b then some (o, true) else none, hjoin x y, ?_, ?_, by simp [imm], x, y, hd, rfl, hr, hF⟩
  · intro j
    by_cases hj : j = b
    · subst hj; exact .inr (.inr ⟨o, by simp, by simp [hjoin, hx]⟩)
    · exact .inl (by simp [hj])
  · funext j
    by_cases hj : j = b
    · subst hj; simp [hjoin, hx]
    · simp [hjoin, hj]

/-! ### Resources that are made of others -/

/-- A fact, as a resource. -/
def hpure (p : Prop) : HProp := fun _ => p
/-- Some of a family. -/
def hex {α : Type} (R : α → HProp) : HProp := fun h => ∃ x, R x h
/-- Several, under one key. -/
def hall (L : List Res) : HProp := fun h => sepL L h
/-- a fact beside resources -/
def hand (p : Prop) (R : HProp) : HProp := fun h => p ∧ R h

theorem Ent.open_pure {p : Prop} {k : Nat} {F : List Res} {h : Hp} (hs : sepL ((k, hpure p) :: F) h) : p ∧ sepL F h := by
  obtain ⟨x, y, hd, rfl, hr, hF⟩ := hs
  exact ⟨hr, sepL_more F hd hF⟩

theorem sepL_append : ∀ (A B : List Res) (h : Hp), sepL (A ++ B) h ↔ ∃ a b, hdisj a b ∧ h = hjoin a b ∧ sepL A a ∧ sepL B b
  | [], B, h => by
    constructor
    · intro hB; exact ⟨fun _ => none, h, fun _ => .inl rfl, by funext k; simp [hjoin], trivial, hB⟩
    · rintro ⟨a, b, hd, rfl, _, hB⟩; exact sepL_more B hd hB
  | r :: A, B, h => by
    constructor
    · rintro ⟨a, b, hd, rfl, hr, hs⟩
      obtain ⟨c, d, hd2, rfl, hA, hB⟩ := (sepL_append A B b).1 hs
      obtain ⟨h1, h2⟩ := (hdisj_join hd2).1 hd
      exact ⟨hjoin a c, d, (hdisj_join_l h1).2 ⟨h2, hd2⟩, (hjoin_assoc _ _ _).symm, ⟨a, c, h1, rfl, hr, hA⟩, hB⟩
    · rintro ⟨a, d, hd, rfl, ⟨x, c, h1, rfl, hr, hA⟩, hB⟩
      obtain ⟨h2, hd2⟩ := (hdisj_join_l h1).1 hd
      exact ⟨x, hjoin c d, hdisj_join_of h1 h2, hjoin_assoc _ _ _, hr, (sepL_append A B _).2 ⟨c, d, hd2, rfl, hA, hB⟩⟩

theorem Ent.hall_open (k : Nat) (L F : List Res) : Ent ((k, hall L) :: F) (L ++ F) := by
  rintro h ⟨a, b, hd, rfl, hr, hF⟩
  exact (sepL_append L F _).2 ⟨a, b, hd, rfl, hr, hF⟩

theorem Ent.hall_close (k : Nat) (L F : List Res) : Ent (L ++ F) ((k, hall L) :: F) := by
  intro h hs
  obtain ⟨a, b, hd, rfl, hr, hF⟩ := (sepL_append L F _).1 hs
  exact ⟨a, b, hd, rfl, hr, hF⟩

theorem Ent.append {A B C D : List Res} (h : Ent A B) (k : Ent C D) : Ent (A ++ C) (B ++ D) := by
  intro x hs
  obtain ⟨a, b, hd, rfl, hA, hC⟩ := (sepL_append A C _).1 hs
  exact (sepL_append B D _).2 ⟨a, b, hd, rfl, h _ hA, k _ hC⟩

/-- Close an entailment piece by piece: take what the goal's first key names. -/
theorem Ent.take {Rs F Rs' : List Res} {k : Nat} {r r' : HProp} [t : Take Rs k r F] (e : ∀ h, r h → r' h) (hF : Ent F Rs') : Ent Rs ((k, r') :: Rs') := by
  refine t.ent.trans ?_
  rintro h ⟨a, b, hd, rfl, hr, hs⟩
  exact ⟨a, b, hd, rfl, e _ hr, hF _ hs⟩

theorem Ent.take_eq {Rs F Rs' : List Res} {k : Nat} {r r' : HProp} [t : Take Rs k r F] (e : r = r') (hF : Ent F Rs') : Ent Rs ((k, r') :: Rs') := by
  subst e; exact Ent.take (fun _ h => h) hF

/-- Put several together under one key. -/
theorem Ent.fold {Rs Rs' : List Res} {k : Nat} {L F : List Res} (h : Ent Rs (L ++ F)) (hF : Ent F Rs') : Ent Rs ((k, hall L) :: Rs') :=
  h.trans ((Ent.hall_close k L F).trans (Ent.cons _ hF))

theorem Ent.fold_ex {α : Type} {Rs Rs' : List Res} {k : Nat} {R : α → HProp} (x : α) (h : Ent Rs ((k, R x) :: Rs')) : Ent Rs ((k, hex R) :: Rs') := by
  refine h.trans ?_
  rintro h ⟨a, b, hd, rfl, hr, hs⟩
  exact ⟨a, b, hd, rfl, ⟨x, hr⟩, hs⟩

theorem Ent.fold_and {Rs Rs' : List Res} {k : Nat} {p : Prop} {R : HProp} (hp : p) (h : Ent Rs ((k, R) :: Rs')) : Ent Rs ((k, hand p R) :: Rs') := by
  refine h.trans ?_
  rintro h ⟨a, b, hd, rfl, hr, hs⟩
  exact ⟨a, b, hd, rfl, ⟨hp, hr⟩, hs⟩

/-! ### Slots -/

abbrev Env := List (Nat × Value)

def look : Env → Nat → Value
  | [], _ => undef
  | (k, v) :: e, i => if k = i then v else look e i

def slots (n : Nat) (e : Env) : Array Value := Array.ofFn (n := n) fun i => look e i.val
def act (n : Nat) (e : Env) : Act := { tmps := slots n e, defers := [] }

theorem slots_size (n : Nat) (e : Env) : (slots n e).size = n := by simp [slots]
theorem slots_getElem? (n : Nat) (e : Env) (i : Nat) (h : i < n) : (slots n e)[i]? = some (look e i) := by
  simp [slots, h]
theorem slots_getD (n : Nat) (e : Env) (i : Nat) (h : i < n) : (slots n e).getD i undef = look e i := by
  simp [slots, Array.getD_eq_getD_getElem?, h]

theorem slots_set (n : Nat) (e : Env) (d : Nat) (v : Value) : (slots n e).setIfInBounds d v = slots n ((d, v) :: e) := by
  apply Array.ext_getElem?
  intro i
  rw [Array.getElem?_setIfInBounds]
  by_cases hi : i < n
  · rw [slots_getElem? n _ i hi, slots_getElem? n _ i hi]
    by_cases hd : d = i
    · subst hd; simp [look, slots_size, hi]
    · simp [look, hd]
  · have h1 : (slots n e)[i]? = none := by simp [slots, hi]
    have h2 : (slots n ((d, v) :: e))[i]? = none := by simp [slots, hi]
    rw [h1, h2]
    split
    · rename_i h
      rw [slots_size]
      split
      · omega
      · rfl
    · rfl

theorem act_put (n : Nat) (e : Env) (d : Nat) (v : Value) : (act n e).put (some d) v = act n ((d, v) :: e) := by
  simp [act, Act.put, slots_set]
theorem act_put_none (n : Nat) (e : Env) (v : Value) : (act n e).put none v = act n e := rfl

/-- Slots that say what they said. -/
theorem slots_congr {n : Nat} {e e' : Env} (h : ∀ i, i < n → look e i = look e' i) : slots n e = slots n e' := by
  apply Array.ext_getElem?
  intro i
  by_cases hi : i < n
  · rw [slots_getElem? n _ i hi, slots_getElem? n _ i hi, h i hi]
  · have h1 : (slots n e)[i]? = none := by simp [slots, hi]
    have h2 : (slots n e')[i]? = none := by simp [slots, hi]
    rw [h1, h2]

def says (e : Env) : Env → Prop
  | [] => True
  | (k, v) :: l => look e k = v ∧ says e l

theorem look_says {e : Env} : ∀ (l : Env), says e l → ∀ i, look (l ++ e) i = look e i
  | [], _, _ => rfl
  | (k, v) :: l, h, i => by
    simp only [List.cons_append, look]
    split
    · rename_i hk; subst hk; exact h.1.symm
    · exact look_says l h.2 i

theorem act_says {n : Nat} {e l : Env} (h : says e l) : act n e = act n (l ++ e) := by
  unfold act
  rw [slots_congr (e := e) (e' := l ++ e) fun i _ => (look_says l h i).symm]

/-! A literal's test, for instances. -/
class EvB (x r : Bool) : Prop where out : x = r
instance (r : Bool) : EvB r r := ⟨rfl⟩
class BNe (b c : Bool) : Prop where out : b ≠ c
instance : BNe true false := ⟨by simp⟩
instance : BNe false true := ⟨by simp⟩
class Lt (a b : Nat) : Prop where out : a < b
instance Lt.lit (a b : Nat) [h : EvB (Nat.ble b a) false] : Lt a b := ⟨by
  have := h.out
  rcases Nat.lt_or_ge a b with g | g
  · exact g
  · rw [Nat.ble_eq_true_of_le g] at this; cases this⟩

class Lk (e : Env) (t : Nat) (v : outParam Value) : Prop where out : look e t = v
instance Lk.here (t : Nat) (v : Value) (e : Env) : Lk ((t, v) :: e) t v := ⟨by simp [look]⟩
instance (priority := 50) Lk.there (k : Nat) (u : Value) (e : Env) (t : Nat) (v : Value) [h : Lk e t v] [hk : EvB (Nat.beq k t) false] : Lk ((k, u) :: e) t v :=
  ⟨by have := Nat.ne_of_beq_eq_false hk.out; simp [look, this, h.out]⟩

instance (priority := 60) Lk.there4 (k0 k1 k2 k3 : Nat) (u0 u1 u2 u3 : Value) (e : Env) (t : Nat) (v : Value) [h : Lk e t v] [hk : EvB (Nat.beq (Nat.mul (Nat.mul (Nat.mul (Nat.add (Nat.sub k0 t) (Nat.sub t k0)) (Nat.add (Nat.sub k1 t) (Nat.sub t k1))) (Nat.add (Nat.sub k2 t) (Nat.sub t k2))) (Nat.add (Nat.sub k3 t) (Nat.sub t k3))) 0) false] : Lk ((k0, u0) :: (k1, u1) :: (k2, u2) :: (k3, u3) :: e) t v :=
  ⟨by
    have h0 := Nat.ne_of_beq_eq_false hk.out
    have hne : k0 ≠ t ∧ k1 ≠ t ∧ k2 ≠ t ∧ k3 ≠ t := by
      refine ⟨?_, ?_, ?_, ?_⟩ <;> (rintro rfl; apply h0; simp)
    simp [look, hne, h.out]⟩
instance (priority := 70) Lk.there8 (k0 k1 k2 k3 k4 k5 k6 k7 : Nat) (u0 u1 u2 u3 u4 u5 u6 u7 : Value) (e : Env) (t : Nat) (v : Value) [h : Lk e t v] [hk : EvB (Nat.beq (Nat.mul (Nat.mul (Nat.mul (Nat.mul (Nat.mul (Nat.mul (Nat.mul (Nat.add (Nat.sub k0 t) (Nat.sub t k0)) (Nat.add (Nat.sub k1 t) (Nat.sub t k1))) (Nat.add (Nat.sub k2 t) (Nat.sub t k2))) (Nat.add (Nat.sub k3 t) (Nat.sub t k3))) (Nat.add (Nat.sub k4 t) (Nat.sub t k4))) (Nat.add (Nat.sub k5 t) (Nat.sub t k5))) (Nat.add (Nat.sub k6 t) (Nat.sub t k6))) (Nat.add (Nat.sub k7 t) (Nat.sub t k7))) 0) false] : Lk ((k0, u0) :: (k1, u1) :: (k2, u2) :: (k3, u3) :: (k4, u4) :: (k5, u5) :: (k6, u6) :: (k7, u7) :: e) t v :=
  ⟨by
    have h0 := Nat.ne_of_beq_eq_false hk.out
    have hne : k0 ≠ t ∧ k1 ≠ t ∧ k2 ≠ t ∧ k3 ≠ t ∧ k4 ≠ t ∧ k5 ≠ t ∧ k6 ≠ t ∧ k7 ≠ t := by
      refine ⟨?_, ?_, ?_, ?_, ?_, ?_, ?_, ?_⟩ <;> (rintro rfl; apply h0; simp)
    simp [look, hne, h.out]⟩

/-- What an operand is worth. -/
class Ev (n : Nat) (e : Env) (x : Operand) (v : outParam Value) : Prop where out : (act n e).eval x = v
instance Ev.const (n : Nat) (e : Env) (v : Value) : Ev n e (.const v) v := ⟨rfl⟩
instance Ev.func (n : Nat) (e : Env) (f : FuncId) : Ev n e (.func f) (.func (.func f) #[] #[]) := ⟨rfl⟩
instance Ev.global (n : Nat) (e : Env) (g : Nat) : Ev n e (.global g) (.pointer (some ⟨g, 0, none⟩)) := ⟨rfl⟩
instance Ev.tmp (n : Nat) (e : Env) (t : Nat) (v : Value) [h : Lk e t v] [hn : Lt t n] : Ev n e (.tmp t) v :=
  ⟨by
    have := hn.out
    simp [Act.eval, act, slots_getD n e t this, h.out]⟩

class EvL (n : Nat) (e : Env) (xs : List Operand) (vs : outParam (List Value)) : Prop where out : xs.map (act n e).eval = vs
instance EvL.nil (n : Nat) (e : Env) : EvL n e [] [] := ⟨rfl⟩
instance EvL.cons (n : Nat) (e : Env) (x : Operand) (xs : List Operand) (v : Value) (vs : List Value) [h : Ev n e x v] [h2 : EvL n e xs vs] : EvL n e (x :: xs) (v :: vs) :=
  ⟨by simp [h.out, h2.out]⟩

/-- an activation that holds marks of loops over functions -/
def actM (m : List Deferred) (n : Nat) (e : Env) : Act := { tmps := slots n e, defers := m }
theorem actM_nil (n : Nat) (e : Env) : actM [] n e = act n e := rfl
theorem actM_eval (m : List Deferred) (n : Nat) (e : Env) : (actM m n e).eval = (act n e).eval := rfl
theorem actM_tmps (m : List Deferred) (n : Nat) (e : Env) : (actM m n e).tmps = (act n e).tmps := rfl
theorem actM_put (m : List Deferred) (n : Nat) (e : Env) (d : Nat) (v : Value) : (actM m n e).put (some d) v = actM m n ((d, v) :: e) := by
  simp [actM, Act.put, slots_set]
theorem actM_put_none (m : List Deferred) (n : Nat) (e : Env) (v : Value) : (actM m n e).put none v = actM m n e := rfl
theorem actM_says {m : List Deferred} {n : Nat} {e l : Env} (h : says e l) : actM m n e = actM m n (l ++ e) := by
  unfold actM
  rw [slots_congr (e := e) (e' := l ++ e) fun i _ => (look_says l h i).symm]

end Go.Gsl

namespace Go.Gsl
set_option linter.unusedVariables false

/-- All that a walk goes on to: the round of a loop over a function in which it stands, if any; the marks of such loops that the activation holds; what is asked at each way out. -/
structure Cont where
  r : Option Nat
  m : List Deferred
  q : Exit → Act → World → Prop
/-- every function, any depth -/
def fz (r : Option Nat) : Fence := { Fence.wide with round := r }

/-- From every world that holds the resources, the list of operations comes to 'Q'. -/
def SW (P : Program) (ops : List Oper) (Q : Cont) (n : Nat) (w0 : World) (l : List Oper) (e : Env) (Rs : List Res) : Prop :=
  ∀ w, Sat w0 w Rs → wpListIn (fz Q.r) 0 P ops.toArray Q.q l (actM Q.m n e) w
def SC (P : Program) (Q : Cont) (n : Nat) (w0 : World) (c : Code) (e : Env) (Rs : List Res) : Prop :=
  ∀ w, Sat w0 w Rs → c.wpIn (fz Q.r) 0 P Q.q (actM Q.m n e) w
def SQ (Q : Cont) (n : Nat) (w0 : World) (x : Exit) (e : Env) (Rs : List Res) : Prop :=
  ∀ w, Sat w0 w Rs → Q.q x (actM Q.m n e) w

/-- first this, then 'y' -/
def Cont.next (P : Program) (y : Code) (Q : Cont) : Cont := ⟨Q.r, Q.m, Exit.then (y.wpIn (fz Q.r) 0 P Q.q) Q.q⟩
def Cont.block (id : Nat) (Q : Cont) : Cont := ⟨Q.r, Q.m, Exit.inBlock id Q.q⟩

section
variable {P : Program} {ops : List Oper} {Q : Cont} {n : Nat} {w0 : World} {l rest : List Oper} {e : Env} {Rs Rs' F : List Res}

/-! ### What an operation yields, the world left alone -/
class RunOp (P : Program) (n : Nat) (w0 : World) (e : Env) (Rs : List Res) (op : Op) (ty : TypeId) (v : outParam Value) : Prop where
  run : ∀ o : Oper, o.op = op → o.type = ty → ∀ w, Sat w0 w Rs → (execOp (act n e).eval o).run P w = .ok (.value v) w

/-- An operation that looks at no memory. -/
class PureOp (P : Program) (n : Nat) (e : Env) (op : Op) (ty : TypeId) (v : outParam Value) : Prop where
  run : ∀ o : Oper, o.op = op → o.type = ty → ∀ w, (execOp (act n e).eval o).run P w = .ok (.value v) w
instance RunOp.pure (op : Op) (ty : TypeId) (v : Value) [h : PureOp P n e op ty v] : RunOp P n w0 e Rs op ty v := ⟨fun o h1 h2 w _ => h.run o h1 h2 w⟩

theorem not_defer {ρ : Operand → Value} {o : Oper} {w w' : World} {x : Next} (h : (execOp ρ o).run P w = .ok x w') (hx : ∀ d, x ≠ .defer d) : ∀ c, o.op ≠ .defer c := by
  intro c hc
  unfold execOp at h
  rw [hc] at h
  simp only [Sem.run_bind] at h
  cases hr : (resolve ρ c o.type).run P w with
  | ok d w1 => rw [hr] at h; simp only [Result.andThen_ok, Sem.run_pure, Result.ok.injEq] at h; exact hx d h.1.symm
  | halt y w1 => rw [hr] at h; simp [Result.andThen] at h

theorem wpM_upon {o : Oper} {a : Act} {w w' : World} {x : Next} {r : Option Nat} {q : Exit → Act → World → Prop} (hg : o.guard = none) (h : (execOp a.eval o).run P w = .ok x w') (hx : ∀ d, x ≠ .defer d)
    (k : o.uponIn (fz r) 0 P a (wpListIn (fz r) 0 P ops.toArray q rest) q (.ok x w')) : wpListIn (fz r) 0 P ops.toArray q (o :: rest) a w := by
  unfold wpListIn
  rw [if_pos (by simp [Region.wanted, hg])]
  unfold Oper.wpIn
  refine ⟨fun _ _ => trivial, ?_⟩
  rw [Oper.semAt_eq _ _ _ (not_defer h hx), h]
  exact k

/-- an operation that yields a value -/
theorem wpM_value {o : Oper} {e : Env} {w w' : World} {v : Value} (hg : o.guard = none) (h : (execOp (act n e).eval o).run P w = .ok (.value v) w')
    (k : wpListIn (fz Q.r) 0 P ops.toArray Q.q rest ((actM Q.m n e).put o.dst v) w') : wpListIn (fz Q.r) 0 P ops.toArray Q.q (o :: rest) (actM Q.m n e) w :=
  wpM_upon hg h (fun _ h => by cases h) k
theorem wpM_skip {o : Oper} {e : Env} {w w' : World} (hg : o.guard = none) (h : (execOp (act n e).eval o).run P w = .ok .skip w')
    (k : wpListIn (fz Q.r) 0 P ops.toArray Q.q rest ((actM Q.m n e).put o.dst undef) w') : wpListIn (fz Q.r) 0 P ops.toArray Q.q (o :: rest) (actM Q.m n e) w :=
  wpM_upon hg h (fun _ h => by cases h) k
theorem callsIn_fz {r : Option Nat} {f : FuncId} {args : Array Value} {w : World} {R : Ending → World → Prop} : CallsIn (fz r) 0 P f args w R ↔ Calls P f args w R := by
  rw [← callsIn_wide (n := 0)]
  cases r with
  | none => exact Iff.rfl
  | some l => exact ⟨fun h => CallsIn.outOfRound (F := Fence.wide) (l := l) h, fun h => CallsIn.inRound (F := Fence.wide) l h⟩
theorem wpM_enter {o : Oper} {e : Env} {w w' : World} {f : FuncId} {args : Array Value} (hg : o.guard = none) (h : (execOp (act n e).eval o).run P w = .ok (.enter f args) w')
    {R : Ending → World → Prop} (hc : Calls P f args w' R)
    (k : ∀ x w'', R x w'' → ∃ v, x = .returned v ∧ wpListIn (fz Q.r) 0 P ops.toArray Q.q rest ((actM Q.m n e).put o.dst v) w'') : wpListIn (fz Q.r) 0 P ops.toArray Q.q (o :: rest) (actM Q.m n e) w := by
  refine wpM_upon hg h (fun _ h => by cases h) ?_
  rw [Oper.uponIn_enter]
  refine ⟨fun h => by simp [fz, Fence.wide] at h, callsIn_fz.2 (Calls.mono hc fun x w'' hx => ?_)⟩
  obtain ⟨v, rfl, hk⟩ := k x w'' hx
  exact hk

theorem sw_nil (h : SQ Q n w0 .normal e Rs) : SW P ops Q n w0 [] e Rs := fun w hw => wpListIn_nil (h w hw)

theorem sw_op {d : Nat} {op : Op} {ty : TypeId} {pos : String} {after : Array Edge} {v : Value} [h : RunOp P n w0 e Rs op ty v]
    (k : SW P ops Q n w0 rest ((d, v) :: e) Rs) : SW P ops Q n w0 ({ dst := some d, op := op, type := ty, pos := pos, after := after, guard := none } :: rest) e Rs := by
  intro w hw
  refine wpM_value rfl (h.run _ rfl rfl w hw) ?_
  rw [actM_put]; exact k w hw

theorem sw_op_ {op : Op} {ty : TypeId} {pos : String} {after : Array Edge} {v : Value} [h : RunOp P n w0 e Rs op ty v]
    (k : SW P ops Q n w0 rest e Rs) : SW P ops Q n w0 ({ dst := none, op := op, type := ty, pos := pos, after := after, guard := none } :: rest) e Rs := by
  intro w hw
  exact wpM_value rfl (h.run _ rfl rfl w hw) (k w hw)

/-- The value that an operation yields, said otherwise. -/
theorem sw_op_as {d : Nat} {op : Op} {ty : TypeId} {pos : String} {after : Array Edge} {v v' : Value} [h : RunOp P n w0 e Rs op ty v] (hv : v = v')
    (k : SW P ops Q n w0 rest ((d, v') :: e) Rs) : SW P ops Q n w0 ({ dst := some d, op := op, type := ty, pos := pos, after := after, guard := none } :: rest) e Rs := by
  subst hv; exact sw_op k

/-! ### Guards -/
class DstAt (ops : List Oper) (j : Nat) (t : outParam Nat) : Prop where out : (ops[j]?).bind (·.dst) = some t
instance DstAt.here (t : Nat) (op : Op) (ty : TypeId) (pos : String) (after : Array Edge) (g : Option (Nat × Bool)) (l : List Oper) : DstAt ({ dst := some t, op := op, type := ty, pos := pos, after := after, guard := g } :: l) 0 t := ⟨rfl⟩
instance DstAt.there (o : Oper) (l : List Oper) (j t : Nat) [h : DstAt l j t] : DstAt (o :: l) (j + 1) t := ⟨by simpa using h.out⟩

theorem yielded_of {j t : Nat} {b : Bool} [hd : DstAt ops j t] [hl : Lk e t (.bool b)] [hn : Lt t n] : yielded ops.toArray (act n e).tmps j = some b := by
  have h1 : (ops.toArray[j]?).bind (·.dst) = some t := by simpa using hd.out
  unfold yielded
  rw [h1]
  simp [act, slots_getElem? n e t hn.out, hl.out]

theorem sw_guard_skip {d : Nat} {op : Op} {ty : TypeId} {pos : String} {after : Array Edge} {j t : Nat} {b c : Bool} [hd : DstAt ops j t] [hl : Lk e t (.bool c)] [hn : Lt t n] [hf : BNe c b]
    (k : SW P ops Q n w0 rest ((d, undef) :: e) Rs) : SW P ops Q n w0 ({ dst := some d, op := op, type := ty, pos := pos, after := after, guard := some (j, b) } :: rest) e Rs := by
  intro w hw
  unfold wpListIn
  rw [if_neg]
  · rw [actM_put]; exact ⟨fun _ _ => trivial, k w hw⟩
  · simp only [Region.wanted, actM_tmps, yielded_of (n := n) (e := e) (ops := ops) (j := j) (t := t) (b := c)]
    have := hf.out
    simpa using this

theorem sw_guard_skip_ {op : Op} {ty : TypeId} {pos : String} {after : Array Edge} {j t : Nat} {b c : Bool} [hd : DstAt ops j t] [hl : Lk e t (.bool c)] [hn : Lt t n] [hf : BNe c b]
    (k : SW P ops Q n w0 rest e Rs) : SW P ops Q n w0 ({ dst := none, op := op, type := ty, pos := pos, after := after, guard := some (j, b) } :: rest) e Rs := by
  intro w hw
  unfold wpListIn
  rw [if_neg]
  · exact ⟨fun _ _ => trivial, k w hw⟩
  · simp only [Region.wanted, actM_tmps, yielded_of (n := n) (e := e) (ops := ops) (j := j) (t := t) (b := c)]
    have := hf.out
    simpa using this

theorem sw_guard_run {dst : Option Nat} {op : Op} {ty : TypeId} {pos : String} {after : Array Edge} {j t : Nat} {b : Bool} [hd : DstAt ops j t] [hl : Lk e t (.bool b)] [hn : Lt t n]
    (k : SW P ops Q n w0 ({ dst := dst, op := op, type := ty, pos := pos, after := after, guard := none } :: rest) e Rs) : SW P ops Q n w0 ({ dst := dst, op := op, type := ty, pos := pos, after := after, guard := some (j, b) } :: rest) e Rs := by
  intro w hw
  have := k w hw
  unfold wpListIn at this ⊢
  rw [if_pos (by simp [Region.wanted])] at this
  rw [if_pos]
  · exact this
  · simp only [Region.wanted, actM_tmps, yielded_of (n := n) (e := e) (ops := ops) (j := j) (t := t) (b := b)]
    simp

/-- What a test says. -/
class BP (b : Bool) (p : outParam Prop) : Prop where out : b = true ↔ p
instance (priority := 10) BP.any (b : Bool) : BP b (b = true) := ⟨Iff.rfl⟩
instance BP.dec (p : Prop) [Decidable p] : BP (decide p) p := ⟨by simp⟩
instance BP.not (b : Bool) (p : Prop) [h : BP b p] : BP (!b) (¬ p) := ⟨by rw [← h.out]; simp⟩

/-- A guard that is not decided: both ways. -/
theorem sw_guard_split {dst : Option Nat} {op : Op} {ty : TypeId} {pos : String} {after : Array Edge} {j t : Nat} {b c : Bool} {p : Prop} [DstAt ops j t] [hl : Lk e t (.bool c)] [hp : BP c p]
    (k1 : p → SW P ops Q n w0 ({ dst := dst, op := op, type := ty, pos := pos, after := after, guard := some (j, b) } :: rest) ((t, .bool true) :: e) Rs)
    (k2 : ¬ p → SW P ops Q n w0 ({ dst := dst, op := op, type := ty, pos := pos, after := after, guard := some (j, b) } :: rest) ((t, .bool false) :: e) Rs) :
    SW P ops Q n w0 ({ dst := dst, op := op, type := ty, pos := pos, after := after, guard := some (j, b) } :: rest) e Rs := by
  intro w hw
  cases c with
  | true => rw [actM_says (e := e) (l := [(t, .bool true)]) ⟨hl.out, trivial⟩]; exact k1 (hp.out.1 rfl) w hw
  | false => rw [actM_says (e := e) (l := [(t, .bool false)]) ⟨hl.out, trivial⟩]; exact k2 (fun h => by have := hp.out.2 h; cases this) w hw

/-! ### Code -/
theorem sc_seq {x y : Code} (h : SC P (Q.next P y) n w0 x e Rs) : SC P Q n w0 (.seq x y) e Rs := fun w hw => wpIn_seq (h w hw)
theorem sc_skip (h : SQ Q n w0 .normal e Rs) : SC P Q n w0 .skip e Rs := fun w hw => wpIn_skip (h w hw)
theorem sc_ret (h : SQ Q n w0 .ret e Rs) : SC P Q n w0 .ret e Rs := fun w hw => wpIn_ret (h w hw)
theorem sc_exit {id : Nat} (h : SQ Q n w0 (.exit id) e Rs) : SC P Q n w0 (.exit id) e Rs := fun w hw => wpIn_exit (h w hw)
theorem sc_block {id : Nat} {c : Code} (h : SC P (Q.block id) n w0 c e Rs) : SC P Q n w0 (.block id c) e Rs := fun w hw => wpIn_block (h w hw)
theorem sc_region {id : Nat} (h : SW P l Q n w0 l e Rs) : SC P Q n w0 (.region id l.toArray false) e Rs := fun w hw => wpIn_region_lit (h w hw)
theorem sc_cond_true {c : Operand} {x y : Code} [hc : Ev n e c (.bool true)] (h : SC P Q n w0 x e Rs) : SC P Q n w0 (.cond c x y) e Rs := fun w hw => wpIn_cond_true hc.out (h w hw)
theorem sc_cond_false {c : Operand} {x y : Code} [hc : Ev n e c (.bool false)] (h : SC P Q n w0 y e Rs) : SC P Q n w0 (.cond c x y) e Rs := fun w hw => wpIn_cond_false hc.out (h w hw)
theorem sc_cond {c : Operand} {x y : Code} {b : Bool} {p : Prop} [hc : Ev n e c (.bool b)] [hp : BP b p] (h1 : p → SC P Q n w0 x e Rs) (h2 : ¬ p → SC P Q n w0 y e Rs) : SC P Q n w0 (.cond c x y) e Rs :=
  fun w hw => wpIn_cond_split hc.out (fun ht => h1 (hp.out.1 ht) w hw) (fun hf => h2 (fun h => by have := hp.out.2 h; rw [hf] at this; cases this) w hw)

theorem sq_then {y : Code} (h : SC P Q n w0 y e Rs) : SQ (Q.next P y) n w0 .normal e Rs := fun w hw => h w hw
theorem sq_then_ret {y : Code} (h : SQ Q n w0 .ret e Rs) : SQ (Q.next P y) n w0 .ret e Rs := fun w hw => h w hw
theorem sq_then_exit {y : Code} {id : Nat} (h : SQ Q n w0 (.exit id) e Rs) : SQ (Q.next P y) n w0 (.exit id) e Rs := fun w hw => h w hw
theorem sq_block {id : Nat} (h : SQ Q n w0 .normal e Rs) : SQ (Q.block id) n w0 .normal e Rs := fun w hw => h w hw
theorem sq_block_ret {id : Nat} (h : SQ Q n w0 .ret e Rs) : SQ (Q.block id) n w0 .ret e Rs := fun w hw => h w hw
theorem sq_block_exit {id : Nat} (h : SQ Q n w0 .normal e Rs) : SQ (Q.block id) n w0 (.exit id) e Rs := fun w hw => by
  have := h w hw
  show Exit.inBlock id Q.q (.exit id) (actM Q.m n e) w
  simpa [Exit.inBlock] using this
theorem sq_block_past {id j : Nat} [hf : EvB (Nat.beq j id) false] (h : SQ Q n w0 (.exit j) e Rs) : SQ (Q.block id) n w0 (.exit j) e Rs := fun w hw => by
  have h1 := Nat.ne_of_beq_eq_false hf.out
  have := h w hw
  show Exit.inBlock id Q.q (.exit j) (actM Q.m n e) w
  simpa [Exit.inBlock, h1] using this

/-! ### A loop -/
theorem wpIn_loop_ghost {α : Type} {F : Fence} {k0 : Nat} {q : Exit → Act → World → Prop} {c : Code} {a : Act} {w : World} (I : α → Act → World → Prop) (m : α → Nat) (x0 : α) (h0 : I x0 a w)
    (round : ∀ x a w, I x a w → c.wpIn F k0 P (Exit.then (fun a' w' => ∃ x', m x' < m x ∧ I x' a' w') q) a w) : (Code.loop c).wpIn F k0 P q a w := by
  intro b k cs hro hb hr
  have key : ∀ n x a w, m x = n → I x a w →
      ∃ e a' w', q e a' w' ∧ ArrivesIn (Machine.fenced P F) P (lone (b.atR a (.code c :: .inLoop c :: k)) cs w) b k cs e a' w' := by
    intro n
    induction n using Nat.strongRecOn with
    | _ n ih =>
      intro x a w hn hI
      obtain ⟨e, a₁, w₁, hq, harr⟩ := round x a w hI b (.inLoop c :: k) cs hro hb hr
      cases e with
      | normal =>
        obtain ⟨x1, hlt, hI₁⟩ := hq
        obtain ⟨e₂, a₂, w₂, hq₂, harr₂⟩ := ih (m x1) (hn ▸ hlt) x1 a₁ w₁ rfl hI₁
        exact ⟨e₂, a₂, w₂, hq₂, .of_steps (StepsIn.trans harr (.one (fenced_calm (fr := b.atR a₁ (.inLoop c :: k)) hb hr rfl) stepR_inLoop)) harr₂⟩
      | exit id => exact ⟨_, a₁, w₁, hq, .pass (x := .inLoop c) rfl (fun _ _ => .inl (by simp)) harr⟩
      | goto l => exact ⟨_, a₁, w₁, hq, .pass (x := .inLoop c) rfl (fun _ _ => .inl (by simp)) harr⟩
      | ret => exact ⟨_, a₁, w₁, hq, .pass (x := .inLoop c) rfl (fun _ _ => .inl (by simp)) harr⟩
      | panic ch => exact ⟨_, a₁, w₁, hq, .pass (x := .inLoop c) rfl (fun _ _ => .inl (by simp)) harr⟩
      | outgrown => exact ⟨_, a₁, w₁, hq, .pass (x := .inLoop c) rfl (fun _ _ => .inl (by simp)) harr⟩
  obtain ⟨e, a', w', hq, harr⟩ := key _ x0 a w rfl h0
  exact ⟨e, a', w', hq, .of_steps (.one (fenced_calm (fr := b.atR a (.code (.loop c) :: k)) hb hr rfl) stepR_loop) harr⟩

/-- What is to be shown at a round's end. -/
def Cont.round {α : Type} (Q : Cont) (n : Nat) (w0 : World) (inv : α → Env) (R : α → List Res) (m : α → Nat) (x : α) : Cont :=
  ⟨Q.r, Q.m, Exit.then (fun a' w' => ∃ x', m x' < m x ∧ ∃ e', a' = actM Q.m n (inv x' ++ e') ∧ Sat w0 w' (R x')) Q.q⟩

/-- A loop: at its head these slots hold this ('inv'), there are these resources ('R'); 'm' goes down. -/
theorem sc_loop {α : Type} {c : Code} (inv : α → Env) (R : α → List Res) (m : α → Nat) (x0 : α) (h0 : says e (inv x0)) (hR : Ent Rs (R x0))
    (round : ∀ x e, SC P (Q.round n w0 inv R m x) n w0 c (inv x ++ e) (R x)) : SC P Q n w0 (.loop c) e Rs := by
  intro w hw
  rw [actM_says h0]
  refine wpIn_loop_ghost (fun x a w => ∃ e, a = actM Q.m n (inv x ++ e) ∧ Sat w0 w (R x)) m x0 ⟨e, rfl, hw.ent hR⟩ ?_
  rintro x a w ⟨e, rfl, hw⟩
  exact round x e w hw

theorem sq_round {α : Type} {inv : α → Env} {R : α → List Res} {m : α → Nat} {x : α} (x' : α) (hm : m x' < m x) (hs : says e (inv x')) (hR : Ent Rs (R x')) :
    SQ (Q.round n w0 inv R m x) n w0 .normal e Rs := fun _ hw => ⟨x', hm, e, actM_says hs, hw.ent hR⟩
theorem sq_round_ret {α : Type} {inv : α → Env} {R : α → List Res} {m : α → Nat} {x : α} (h : SQ Q n w0 .ret e Rs) : SQ (Q.round n w0 inv R m x) n w0 .ret e Rs := fun w hw => h w hw
theorem sq_round_exit {α : Type} {inv : α → Env} {R : α → List Res} {m : α → Nat} {x : α} {id : Nat} (h : SQ Q n w0 (.exit id) e Rs) : SQ (Q.round n w0 inv R m x) n w0 (.exit id) e Rs := fun w hw => h w hw

theorem says_nil : says e [] := trivial
theorem says_cons {k : Nat} {v v' : Value} {l : Env} [h : Lk e k v] (hv : v = v') (hl : says e l) : says e ((k, v') :: l) := ⟨h.out.trans hv, hl⟩

/-! ### Forgetting slots that nobody reads any more -/
class KeepE (e : Env) (ks : List Nat) (l : outParam Env) : Prop where out : says e l
instance KeepE.nil (e : Env) : KeepE e [] [] := ⟨trivial⟩
instance KeepE.cons (e : Env) (k : Nat) (ks : List Nat) (v : Value) (l : Env) [h : Lk e k v] [h2 : KeepE e ks l] : KeepE e (k :: ks) ((k, v) :: l) := ⟨h.out, h2.out⟩
theorem sc_keep {c : Code} {l : Env} (ks : List Nat) [h : KeepE e ks l] (k : ∀ e0, SC P Q n w0 c (l ++ e0) Rs) : SC P Q n w0 c e Rs := by
  intro w hw; rw [actM_says h.out]; exact k e w hw
theorem sw_keep {l' : Env} (ks : List Nat) [h : KeepE e ks l'] (k : ∀ e0, SW P ops Q n w0 l (l' ++ e0) Rs) : SW P ops Q n w0 l e Rs := by
  intro w hw; rw [actM_says h.out]; exact k e w hw
theorem sq_keep {x : Exit} {l : Env} (ks : List Nat) [h : KeepE e ks l] (k : ∀ e0, SQ Q n w0 x (l ++ e0) Rs) : SQ Q n w0 x e Rs := by
  intro w hw; rw [actM_says h.out]; exact k e w hw

/-! ### Calls -/

/-- The contract of a function: to these arguments, with these resources (by their keys), it answers 'v' and leaves 'Rs'' ('Post F v Rs''; F: what else there is). -/
def Spec (P : Program) (f : FuncId) (args : List Value) (ks : List Nat) (rs : List HProp) (Post : List Res → Value → List Res → Prop) : Prop :=
  ∀ (w0 : World) (F : List Res) (w : World), Sat w0 w (ks.zip rs ++ F) → Calls P f args.toArray w fun x w' => ∃ v Rs', x = .returned v ∧ Post F v Rs' ∧ Sat w0 w' Rs'

/-- A function that has a body. -/
class Body (P : Program) (f : FuncId) : Prop where out : ∀ args w, (callFunc f args).run P w = .ok (.enter f args) w

theorem run_call_func {f : FuncId} {args : List Operand} {vs : List Value} {ts : Array TypeId} {o : Oper} (ho : o.op = .call { callee := .value (.func f), args := args.toArray, argTypes := ts }) (ha : args.map (act n e).eval = vs) (w : World) :
    (execOp (act n e).eval o).run P w = (callFunc f vs.toArray).run P w := by
  unfold execOp
  rw [ho]
  simp [resolve, Act.eval, Deferred.ofValue, invoke, ha]

theorem sw_call {d : Nat} {f : FuncId} {args : List Operand} {ts : Array TypeId} {ty : TypeId} {pos : String} {after : Array Edge} {vs : List Value} {ks : List Nat} {rs : List HProp} {Post : List Res → Value → List Res → Prop}
    (hs : Spec P f vs ks rs Post) [hb : Body P f] [ha : EvL n e args vs] [hsp : Split Rs ks rs F]
    (k : ∀ v Rs', Post F v Rs' → SW P ops Q n w0 rest ((d, v) :: e) Rs') :
    SW P ops Q n w0 ({ dst := some d, op := .call { callee := .value (.func f), args := args.toArray, argTypes := ts }, type := ty, pos := pos, after := after, guard := none } :: rest) e Rs := by
  intro w hw
  refine wpM_enter rfl (by rw [run_call_func rfl ha.out, hb.out]) (hs w0 F w (hw.ent hsp.ent)) ?_
  rintro x w' ⟨v, Rs', rfl, hp, hw'⟩
  refine ⟨v, rfl, ?_⟩
  rw [actM_put]
  exact k v Rs' hp w' hw'

theorem sw_call_ {f : FuncId} {args : List Operand} {ts : Array TypeId} {ty : TypeId} {pos : String} {after : Array Edge} {vs : List Value} {ks : List Nat} {rs : List HProp} {Post : List Res → Value → List Res → Prop}
    (hs : Spec P f vs ks rs Post) [hb : Body P f] [ha : EvL n e args vs] [hsp : Split Rs ks rs F]
    (k : ∀ v Rs', Post F v Rs' → SW P ops Q n w0 rest e Rs') :
    SW P ops Q n w0 ({ dst := none, op := .call { callee := .value (.func f), args := args.toArray, argTypes := ts }, type := ty, pos := pos, after := after, guard := none } :: rest) e Rs := by
  intro w hw
  refine wpM_enter rfl (by rw [run_call_func rfl ha.out, hb.out]) (hs w0 F w (hw.ent hsp.ent)) ?_
  rintro x w' ⟨v, Rs', rfl, hp, hw'⟩
  exact ⟨v, rfl, k v Rs' hp w' hw'⟩

/-! ### A function's body -/

def argEnv (i : Nat) : List Value → Env
  | [] => []
  | v :: vs => (i, v) :: argEnv (i + 1) vs

theorem look_argEnv : ∀ (vs : List Value) (i j : Nat), look (argEnv i vs) (i + j) = (vs[j]?).getD undef
  | [], _, _ => rfl
  | v :: vs, i, 0 => by simp [argEnv, look]
  | v :: vs, i, j + 1 => by
    simp only [argEnv, look]
    rw [if_neg (by omega), show i + (j + 1) = (i + 1) + j by omega, look_argEnv vs (i + 1) j]
    simp

theorem act_args (vs : List Value) (n : Nat) (h : vs.length ≤ n) : ({ tmps := vs.toArray ++ Array.replicate (n - vs.toArray.size) undef, defers := [] } : Act) = act n (argEnv 0 vs) := by
  unfold act
  congr 1
  apply Array.ext_getElem?
  intro i
  by_cases hi : i < n
  · rw [slots_getElem? n _ i hi]
    have := look_argEnv vs 0 i
    rw [Nat.zero_add] at this
    rw [this]
    by_cases hv : i < vs.length
    · simp [Array.getElem?_append, hv]
    · have h1 : vs.toArray.size ≤ i := by simpa using Nat.le_of_not_lt hv
      rw [Array.getElem?_append_right h1, Array.getElem?_replicate, if_pos (by simp at h1 ⊢; omega), List.getElem?_eq_none (by omega)]
      rfl
  · have h2 : (slots n (argEnv 0 vs))[i]? = none := by simp [slots, hi]
    rw [h2, Array.getElem?_eq_none (by simp; omega)]

/-- What a body must come to. -/
def Post (P : Program) (fn : Func) (w0 : World) (R : Value → List Res → Prop) : Cont :=
  ⟨none, [], fun x a w => (∀ c, x ≠ .panic c) ∧ bodyPostM Fence.wide 0 P fn (fun x w' => ∃ v Rs', x = .returned v ∧ R v Rs' ∧ Sat w0 w' Rs') x a w⟩

class ArgE (i : Nat) (vs : List Value) (e : outParam Env) : Prop where out : argEnv i vs = e
instance ArgE.nil (i : Nat) : ArgE i [] [] := ⟨rfl⟩
instance ArgE.cons (i : Nat) (v : Value) (vs : List Value) (e : Env) [h : ArgE (i + 1) vs e] : ArgE i (v :: vs) ((i, v) :: e) := ⟨by simp [argEnv, h.out]⟩
class ZipR (ks : List Nat) (rs : List HProp) (R : outParam (List Res → List Res)) : Prop where out : ∀ F, ks.zip rs ++ F = R F
instance ZipR.nil : ZipR [] [] (fun F => F) := ⟨fun _ => rfl⟩
instance ZipR.cons (k : Nat) (ks : List Nat) (r : HProp) (rs : List HProp) (R : List Res → List Res) [h : ZipR ks rs R] : ZipR (k :: ks) (r :: rs) (fun F => (k, r) :: R F) := ⟨fun F => by simp [← h.out F]⟩

theorem spec_of {f : FuncId} {fn : Func} {c : Code} {vs : List Value} {ks : List Nat} {rs : List HProp} {R : List Res → Value → List Res → Prop} {Z : List Res → List Res} (hf : P.funcs[f]? = some fn) (hb : fn.body = some c) (hn : fn.ntmps = n) (hl : Nat.ble vs.length n = true)
    [ha : ArgE 0 vs e] [hz : ZipR ks rs Z] (h : ∀ w0 F, SC P (Post P fn w0 (R F)) n w0 c e (Z F)) : Spec P f vs ks rs R := by
  intro w0 F w hw
  refine callsIn_wide.1 (callsIn_of_wp_marks (n := 0) hf hb trivial ?_)
  rw [hn, act_args vs n (Nat.le_of_ble_eq_true hl), ha.out]
  rw [hz.out] at hw
  exact Code.wpIn_mono (fun _ _ _ q => q.2) (h w0 F w hw)

theorem results_run1 {fn : Func} {t : Nat} {v : Value} (hr : fn.results = #[.tmp t]) [h : Lk e t v] [hn : Lt t n] (w : World) : (results fn (act n e).tmps).run P w = .ok v w := by
  have : (slots n e)[t]? = some v := by rw [slots_getElem? n e t hn.out, h.out]
  simp [results, hr, act, this]
theorem results_run2 {fn : Func} {t u : Nat} {v x : Value} (hr : fn.results = #[.tmp t, .tmp u]) [h : Lk e t v] [hn : Lt t n] [h2 : Lk e u x] [hn2 : Lt u n] (w : World) : (results fn (act n e).tmps).run P w = .ok (.tuple #[v, x]) w := by
  have a1 : (slots n e)[t]? = some v := by rw [slots_getElem? n e t hn.out, h.out]
  have a2 : (slots n e)[u]? = some x := by rw [slots_getElem? n e u hn2.out, h2.out]
  simp [results, hr, act, a1, a2]
theorem results_run3 {fn : Func} {t u s : Nat} {v x y : Value} (hr : fn.results = #[.tmp t, .tmp u, .tmp s]) [h : Lk e t v] [hn : Lt t n] [h2 : Lk e u x] [hn2 : Lt u n] [h3 : Lk e s y] [hn3 : Lt s n] (w : World) : (results fn (act n e).tmps).run P w = .ok (.tuple #[v, x, y]) w := by
  have a1 : (slots n e)[t]? = some v := by rw [slots_getElem? n e t hn.out, h.out]
  have a2 : (slots n e)[u]? = some x := by rw [slots_getElem? n e u hn2.out, h2.out]
  have a3 : (slots n e)[s]? = some y := by rw [slots_getElem? n e s hn3.out, h3.out]
  simp [results, hr, act, a1, a2, a3]

theorem sq_of {fn : Func} {R : Value → List Res → Prop} {v : Value} (hr : ∀ w, (results fn (act n e).tmps).run P w = .ok v w) (h : ∃ Rs', R v Rs' ∧ Ent Rs Rs') : SQ (Post P fn w0 R) n w0 .ret e Rs := by
  obtain ⟨Rs', h1, h2⟩ := h
  intro w hw
  exact ⟨fun _ h => (by cases h), v, hr w, v, Rs', rfl, h1, hw.ent h2⟩
theorem sq_of_n {fn : Func} {R : Value → List Res → Prop} {v : Value} (hr : ∀ w, (results fn (act n e).tmps).run P w = .ok v w) (h : ∃ Rs', R v Rs' ∧ Ent Rs Rs') : SQ (Post P fn w0 R) n w0 .normal e Rs := by
  obtain ⟨Rs', h1, h2⟩ := h
  intro w hw
  exact ⟨fun _ h => (by cases h), v, hr w, v, Rs', rfl, h1, hw.ent h2⟩
theorem sq_ret0 {fn : Func} {R : Value → List Res → Prop} (hr : fn.results = #[]) (h : ∃ Rs', R (.tuple #[]) Rs' ∧ Ent Rs Rs') : SQ (Post P fn w0 R) n w0 .ret e Rs := sq_of (fun w => by simp [results, hr]) h
theorem sq_end0 {fn : Func} {R : Value → List Res → Prop} (hr : fn.results = #[]) (h : ∃ Rs', R (.tuple #[]) Rs' ∧ Ent Rs Rs') : SQ (Post P fn w0 R) n w0 .normal e Rs := sq_of_n (fun w => by simp [results, hr]) h
theorem sq_ret1 {fn : Func} {R : Value → List Res → Prop} {t : Nat} {v : Value} (hr : fn.results = #[.tmp t]) [Lk e t v] [Lt t n] (h : ∃ Rs', R v Rs' ∧ Ent Rs Rs') : SQ (Post P fn w0 R) n w0 .ret e Rs := sq_of (results_run1 hr) h
theorem sq_ret2 {fn : Func} {R : Value → List Res → Prop} {t u : Nat} {v x : Value} (hr : fn.results = #[.tmp t, .tmp u]) [Lk e t v] [Lt t n] [Lk e u x] [Lt u n] (h : ∃ Rs', R (.tuple #[v, x]) Rs' ∧ Ent Rs Rs') : SQ (Post P fn w0 R) n w0 .ret e Rs := sq_of (results_run2 hr) h
theorem sq_ret3 {fn : Func} {R : Value → List Res → Prop} {t u s : Nat} {v x y : Value} (hr : fn.results = #[.tmp t, .tmp u, .tmp s]) [Lk e t v] [Lt t n] [Lk e u x] [Lt u n] [Lk e s y] [Lt s n] (h : ∃ Rs', R (.tuple #[v, x, y]) Rs' ∧ Ent Rs Rs') : SQ (Post P fn w0 R) n w0 .ret e Rs := sq_of (results_run3 hr) h

end

/-! ### One step, found by its form -/
class Go1 (G : Prop) (H : outParam Prop) : Prop where out : H → G
theorem go1 {G H : Prop} [h : Go1 G H] (k : H) : G := h.out k
section
variable {P : Program} {ops : List Oper} {Q : Cont} {n : Nat} {w0 : World} {l rest : List Oper} {e : Env} {Rs : List Res}
theorem sct {c : Operand} {x y : Code} [hc : Ev n e c (.bool true)] (h : SC P Q n w0 x e Rs) : SC P Q n w0 (.cond c x y) e Rs := sc_cond_true h
theorem scf {c : Operand} {x y : Code} [hc : Ev n e c (.bool false)] (h : SC P Q n w0 y e Rs) : SC P Q n w0 (.cond c x y) e Rs := sc_cond_false h
theorem sgr {dst : Option Nat} {op : Op} {ty : TypeId} {pos : String} {after : Array Edge} {j t : Nat} {b : Bool} [hd : DstAt ops j t] [hl : Lk e t (.bool b)] [hn : Lt t n]
    (k : SW P ops Q n w0 ({ dst := dst, op := op, type := ty, pos := pos, after := after, guard := none } :: rest) e Rs) : SW P ops Q n w0 ({ dst := dst, op := op, type := ty, pos := pos, after := after, guard := some (j, b) } :: rest) e Rs := sw_guard_run k
instance Go1.op {d : Nat} {op : Op} {ty : TypeId} {pos : String} {after : Array Edge} {v : Value} [h : RunOp P n w0 e Rs op ty v] : Go1 (SW P ops Q n w0 ({ dst := some d, op := op, type := ty, pos := pos, after := after, guard := none } :: rest) e Rs) (SW P ops Q n w0 rest ((d, v) :: e) Rs) := ⟨sw_op⟩
instance Go1.op_ {op : Op} {ty : TypeId} {pos : String} {after : Array Edge} {v : Value} [h : RunOp P n w0 e Rs op ty v] : Go1 (SW P ops Q n w0 ({ dst := none, op := op, type := ty, pos := pos, after := after, guard := none } :: rest) e Rs) (SW P ops Q n w0 rest e Rs) := ⟨sw_op_⟩
instance Go1.nil : Go1 (SW P ops Q n w0 [] e Rs) (SQ Q n w0 .normal e Rs) := ⟨sw_nil⟩
instance Go1.then {y : Code} : Go1 (SQ (Q.next P y) n w0 .normal e Rs) (SC P Q n w0 y e Rs) := ⟨sq_then⟩
instance Go1.seq {x y : Code} : Go1 (SC P Q n w0 (.seq x y) e Rs) (SC P (Q.next P y) n w0 x e Rs) := ⟨sc_seq⟩
instance Go1.region {id : Nat} : Go1 (SC P Q n w0 (.region id l.toArray false) e Rs) (SW P l Q n w0 l e Rs) := ⟨sc_region⟩
instance Go1.skip {d : Nat} {op : Op} {ty : TypeId} {pos : String} {after : Array Edge} {j t : Nat} {b c : Bool} [hd : DstAt ops j t] [hl : Lk e t (.bool c)] [hn : Lt t n] [hf : BNe c b] :
    Go1 (SW P ops Q n w0 ({ dst := some d, op := op, type := ty, pos := pos, after := after, guard := some (j, b) } :: rest) e Rs) (SW P ops Q n w0 rest ((d, undef) :: e) Rs) := ⟨sw_guard_skip⟩
instance Go1.skip_ {op : Op} {ty : TypeId} {pos : String} {after : Array Edge} {j t : Nat} {b c : Bool} [hd : DstAt ops j t] [hl : Lk e t (.bool c)] [hn : Lt t n] [hf : BNe c b] :
    Go1 (SW P ops Q n w0 ({ dst := none, op := op, type := ty, pos := pos, after := after, guard := some (j, b) } :: rest) e Rs) (SW P ops Q n w0 rest e Rs) := ⟨sw_guard_skip_⟩
instance Go1.grun {dst : Option Nat} {op : Op} {ty : TypeId} {pos : String} {after : Array Edge} {j t : Nat} {b : Bool} [hd : DstAt ops j t] [hl : Lk e t (.bool b)] [hn : Lt t n] :
    Go1 (SW P ops Q n w0 ({ dst := dst, op := op, type := ty, pos := pos, after := after, guard := some (j, b) } :: rest) e Rs) (SW P ops Q n w0 ({ dst := dst, op := op, type := ty, pos := pos, after := after, guard := none } :: rest) e Rs) := ⟨sw_guard_run⟩
instance Go1.ct {c : Operand} {x y : Code} [hc : Ev n e c (.bool true)] : Go1 (SC P Q n w0 (.cond c x y) e Rs) (SC P Q n w0 x e Rs) := ⟨sc_cond_true⟩
instance Go1.cf {c : Operand} {x y : Code} [hc : Ev n e c (.bool false)] : Go1 (SC P Q n w0 (.cond c x y) e Rs) (SC P Q n w0 y e Rs) := ⟨sc_cond_false⟩
instance Go1.ret : Go1 (SC P Q n w0 .ret e Rs) (SQ Q n w0 .ret e Rs) := ⟨sc_ret⟩
instance Go1.then_ret {y : Code} : Go1 (SQ (Q.next P y) n w0 .ret e Rs) (SQ Q n w0 .ret e Rs) := ⟨sq_then_ret⟩
instance Go1.cskip : Go1 (SC P Q n w0 .skip e Rs) (SQ Q n w0 .normal e Rs) := ⟨sc_skip⟩
instance Go1.block {id : Nat} {c : Code} : Go1 (SC P Q n w0 (.block id c) e Rs) (SC P (Q.block id) n w0 c e Rs) := ⟨sc_block⟩
instance Go1.qblock {id : Nat} : Go1 (SQ (Q.block id) n w0 .normal e Rs) (SQ Q n w0 .normal e Rs) := ⟨sq_block⟩
instance Go1.qblock_ret {id : Nat} : Go1 (SQ (Q.block id) n w0 .ret e Rs) (SQ Q n w0 .ret e Rs) := ⟨sq_block_ret⟩
instance Go1.exit {id : Nat} : Go1 (SC P Q n w0 (.exit id) e Rs) (SQ Q n w0 (.exit id) e Rs) := ⟨sc_exit⟩
instance Go1.then_exit {y : Code} {id : Nat} : Go1 (SQ (Q.next P y) n w0 (.exit id) e Rs) (SQ Q n w0 (.exit id) e Rs) := ⟨sq_then_exit⟩
instance Go1.block_past {id j : Nat} [hf : EvB (Nat.beq j id) false] : Go1 (SQ (Q.block id) n w0 (.exit j) e Rs) (SQ Q n w0 (.exit j) e Rs) := ⟨sq_block_past⟩
instance Go1.block_exit {id : Nat} : Go1 (SQ (Q.block id) n w0 (.exit id) e Rs) (SQ Q n w0 .normal e Rs) := ⟨sq_block_exit⟩
instance Go1.round_ret {α : Type} {inv : α → Env} {R : α → List Res} {m : α → Nat} {x : α} : Go1 (SQ (Q.round n w0 inv R m x) n w0 .ret e Rs) (SQ Q n w0 .ret e Rs) := ⟨sq_round_ret⟩
instance Go1.round_exit {α : Type} {inv : α → Env} {R : α → List Res} {m : α → Nat} {x : α} {id : Nat} : Go1 (SQ (Q.round n w0 inv R m x) n w0 (.exit id) e Rs) (SQ Q n w0 (.exit id) e Rs) := ⟨sq_round_exit⟩
end
end Go.Gsl

namespace Go.Gsl
set_option linter.unusedVariables false

/-! ### Facts on a program's types, as instances (each program gives its own) -/
class Und (P : Program) (t : TypeId) (d : outParam TypeDesc) : Prop where out : P.underlying t = some d
class NonAgg (P : Program) (t : TypeId) : Prop where out : ∀ w, (isAgg t).run P w = .ok false w
class IsAggT (P : Program) (t : TypeId) : Prop where out : ∀ w, (isAgg t).run P w = .ok true w
class SizeOf (P : Program) (t : TypeId) (s : outParam Nat) : Prop where out : ∀ w, (sizeOf t).run P w = .ok s w
class ZeroOf (P : Program) (t : TypeId) (z : outParam Value) : Prop where out : ∀ w, (zeroValue t).run P w = .ok z w

theorem run_und {P : Program} {t : TypeId} {d : TypeDesc} [h : Und P t d] (w : World) : (underlying t).run P w = .ok d w := by
  simp [underlying, h.out]

section
variable {P : Program} {ops : List Oper} {Q : Cont} {n : Nat} {w0 : World} {l rest : List Oper} {e : Env} {Rs Rs' F : List Res} {ty : TypeId}

theorem pure_of {op : Op} {v : Value} (s : Sem Value) (hs : ∀ o : Oper, o.op = op → o.type = ty → execOp (act n e).eval o = (do let x ← s; pure (.value x))) (hr : ∀ w, s.run P w = .ok v w) : PureOp P n e op ty v :=
  ⟨fun o h1 h2 w => by rw [hs o h1 h2]; simp [hr w]⟩

instance PureOp.move (x : Operand) (v : Value) [h : Ev n e x v] : PureOp P n e (.move x) ty v := ⟨fun o h1 _ w => by unfold execOp; rw [h1]; simp [h.out]⟩
instance PureOp.assign (x : Operand) (v : Value) [h : Ev n e x v] : PureOp P n e (.assign x) ty v := ⟨fun o h1 _ w => by unfold execOp; rw [h1]; simp [h.out]⟩
instance PureOp.pick_t (c a b : Operand) (v : Value) [hc : Ev n e c (.bool true)] [h : Ev n e a v] : PureOp P n e (.pick c a b) ty v := ⟨fun o h1 _ w => by unfold execOp; rw [h1]; simp [h.out, hc.out, asBool]⟩
instance PureOp.pick_f (c a b : Operand) (v : Value) [hc : Ev n e c (.bool false)] [h : Ev n e b v] : PureOp P n e (.pick c a b) ty v := ⟨fun o h1 _ w => by unfold execOp; rw [h1]; simp [h.out, hc.out, asBool]⟩
instance PureOp.nilCheck (x : Operand) (a : Addr) [h : Ev n e x (.pointer (some a))] : PureOp P n e (.nilCheck x) ty (.pointer (some a)) := ⟨fun o h1 _ w => by unfold execOp; rw [h1]; simp [h.out]⟩

class TupAt (vs : List Value) (i : Nat) (v : outParam Value) : Prop where out : vs[i]? = some v
instance TupAt.here (v : Value) (vs : List Value) : TupAt (v :: vs) 0 v := ⟨rfl⟩
instance TupAt.there (u : Value) (vs : List Value) (i : Nat) (v : Value) [h : TupAt vs i v] : TupAt (u :: vs) (i + 1) v := ⟨by simpa using h.out⟩
instance PureOp.extract (x : Operand) (vs : List Value) (i : Nat) (v : Value) [h : Ev n e x (.tuple vs.toArray)] [hi : TupAt vs i v] : PureOp P n e (.extract x i) ty v :=
  ⟨fun o h1 _ w => by unfold execOp; rw [h1]; simp [h.out, Instr.extract, hi.out]⟩

/-! integers -/
theorem int_beq (a b : Int) : (a == b) = decide (a = b) := by rw [Bool.eq_iff_iff]; simp
section ints
variable {x y : Operand} {k : IntKind} {a b : Int} {t t' : TypeId}
theorem run_binop_int {op : BinOp} {v : Value} {o : Oper} (h1 : o.op = .binOp op t x y t') [hx : Ev n e x (.int k a)] [hy : Ev n e y (.int k b)] (hop : op ≠ .shl ∧ op ≠ .shr) (w : World)
    (hr : (match op with | .add | .sub | .mul => Op.intArith op k a b | .quo | .rem => Op.intDiv op k a b | .and | .or | .xor | .andNot => Op.intBits op k a b | _ => Op.intCmp op a b).run P w = .ok v w) :
    (execOp (act n e).eval o).run P w = .ok (.value v) w := by
  unfold execOp
  rw [h1]
  have hg : (eqGuard op t x y (.int k a) (.int k b)).run P w = .ok () w := by
    unfold eqGuard; cases op <;> simp
  have hb : (binOp op t (.int k a) (.int k b)).run P w = .ok v w := by
    rw [← hr]
    cases op <;> simp_all [binOp]
  simp [hx.out, hy.out, hg, hb]

instance PureOp.lss [Ev n e x (.int k a)] [Ev n e y (.int k b)] : PureOp P n e (.binOp .lss t x y t') ty (.bool (decide (a < b))) := ⟨fun o h1 _ w => run_binop_int h1 (by simp) w rfl⟩
instance PureOp.leq [Ev n e x (.int k a)] [Ev n e y (.int k b)] : PureOp P n e (.binOp .leq t x y t') ty (.bool (decide (a ≤ b))) := ⟨fun o h1 _ w => run_binop_int h1 (by simp) w rfl⟩
instance PureOp.gtr [Ev n e x (.int k a)] [Ev n e y (.int k b)] : PureOp P n e (.binOp .gtr t x y t') ty (.bool (decide (b < a))) := ⟨fun o h1 _ w => run_binop_int h1 (by simp) w rfl⟩
instance PureOp.geq [Ev n e x (.int k a)] [Ev n e y (.int k b)] : PureOp P n e (.binOp .geq t x y t') ty (.bool (decide (b ≤ a))) := ⟨fun o h1 _ w => run_binop_int h1 (by simp) w rfl⟩
instance PureOp.eql [Ev n e x (.int k a)] [Ev n e y (.int k b)] : PureOp P n e (.binOp .eql t x y t') ty (.bool (decide (a = b))) := ⟨fun o h1 _ w => run_binop_int h1 (by simp) w (by simp [Op.intCmp, int_beq])⟩
instance PureOp.neq [Ev n e x (.int k a)] [Ev n e y (.int k b)] : PureOp P n e (.binOp .neq t x y t') ty (.bool (decide (a ≠ b))) := ⟨fun o h1 _ w => run_binop_int h1 (by simp) w (by simp [Op.intCmp, bne, int_beq])⟩
instance PureOp.add [Ev n e x (.int k a)] [Ev n e y (.int k b)] : PureOp P n e (.binOp .add t x y t') ty (.int k (k.wrap (a + b))) := ⟨fun o h1 _ w => run_binop_int h1 (by simp) w rfl⟩
instance PureOp.sub [Ev n e x (.int k a)] [Ev n e y (.int k b)] : PureOp P n e (.binOp .sub t x y t') ty (.int k (k.wrap (a - b))) := ⟨fun o h1 _ w => run_binop_int h1 (by simp) w rfl⟩
instance PureOp.mul [Ev n e x (.int k a)] [Ev n e y (.int k b)] : PureOp P n e (.binOp .mul t x y t') ty (.int k (k.wrap (a * b))) := ⟨fun o h1 _ w => run_binop_int h1 (by simp) w rfl⟩

theorem sw_arith {d : Nat} {op : BinOp} {t t' ty : TypeId} {pos : String} {after : Array Edge} (c : Int) [h : PureOp P n e (.binOp op t x y t') ty (.int k (k.wrap c))] (hc : k.wrap c = c)
    (q : SW P ops Q n w0 rest ((d, .int k c) :: e) Rs) : SW P ops Q n w0 ({ dst := some d, op := .binOp op t x y t', type := ty, pos := pos, after := after, guard := none } :: rest) e Rs := sw_op_as (by rw [hc]) q
/-- a sum, a difference, a product that does not wrap -/
theorem sw_i64 {d : Nat} {op : BinOp} {t t' ty : TypeId} {pos : String} {after : Array Edge} {c : Int} [h : PureOp P n e (.binOp op t x y t') ty (.int .i64 (IntKind.i64.wrap c))] (hc : -9223372036854775808 ≤ c ∧ c ≤ 9223372036854775807)
    (q : SW P ops Q n w0 rest ((d, .int .i64 c) :: e) Rs) : SW P ops Q n w0 ({ dst := some d, op := .binOp op t x y t', type := ty, pos := pos, after := after, guard := none } :: rest) e Rs := sw_op_as (by rw [IntWalk.i64_in _ hc]) q

/-- a division, a remainder: the divisor is not nought -/
theorem run_div {op : BinOp} {o : Oper} {t t' : TypeId} (h1 : o.op = .binOp op t x y t') [hx : Ev n e x (.int k a)] [hy : Ev n e y (.int k b)] (hb : b ≠ 0) (w : World) :
    (op = .quo → (execOp (act n e).eval o).run P w = .ok (.value (.int k (k.wrap (a.tdiv b)))) w) ∧ (op = .rem → (execOp (act n e).eval o).run P w = .ok (.value (.int k (a.tmod b))) w) := by
  constructor
  · rintro rfl; exact run_binop_int h1 (by simp) w (by simp [Op.intDiv, hb])
  · rintro rfl; exact run_binop_int h1 (by simp) w (by simp [Op.intDiv, hb])

theorem runop_rem {t t' ty : TypeId} [hx : Ev n e x (.int k a)] [hy : Ev n e y (.int k b)] (hb : b ≠ 0) : RunOp P n w0 e Rs (.binOp .rem t x y t') ty (.int k (a.tmod b)) := ⟨fun _ h1 _ w _ => (run_div h1 hb w).2 rfl⟩
theorem runop_quo {t t' ty : TypeId} [hx : Ev n e x (.int k a)] [hy : Ev n e y (.int k b)] (hb : b ≠ 0) : RunOp P n w0 e Rs (.binOp .quo t x y t') ty (.int k (k.wrap (a.tdiv b))) := ⟨fun _ h1 _ w _ => (run_div h1 hb w).1 rfl⟩
theorem sw_rem {d : Nat} {t t' ty : TypeId} {pos : String} {after : Array Edge} [hx : Ev n e x (.int k a)] [hy : Ev n e y (.int k b)] (hb : b ≠ 0)
    (q : SW P ops Q n w0 rest ((d, .int k (a.tmod b)) :: e) Rs) : SW P ops Q n w0 ({ dst := some d, op := .binOp .rem t x y t', type := ty, pos := pos, after := after, guard := none } :: rest) e Rs :=
  sw_op (h := runop_rem hb) q
theorem sw_quo {d : Nat} {t t' ty : TypeId} {pos : String} {after : Array Edge} [hx : Ev n e x (.int k a)] [hy : Ev n e y (.int k b)] (hb : b ≠ 0)
    (q : SW P ops Q n w0 rest ((d, .int k (k.wrap (a.tdiv b))) :: e) Rs) : SW P ops Q n w0 ({ dst := some d, op := .binOp .quo t x y t', type := ty, pos := pos, after := after, guard := none } :: rest) e Rs :=
  sw_op (h := runop_quo hb) q

instance PureOp.conv [h : Ev n e x (.int k a)] (d : TypeId) (k' : IntKind) [hd : Und P d (.int k')] [hs : Und P t (.int k)] : PureOp P n e (.convert t d x) ty (.int k' (k'.wrap a)) :=
  ⟨fun o h1 _ w => by unfold execOp; rw [h1]; simp [h.out, convert, run_und (t := t), run_und (t := d), Conv.intToInt]⟩
theorem sw_conv_i64 {d : Nat} {s t ty : TypeId} {pos : String} {after : Array Edge} {c : Int} [h : PureOp P n e (.convert s t x) ty (.int .i64 (IntKind.i64.wrap c))] (hc : -9223372036854775808 ≤ c ∧ c ≤ 9223372036854775807)
    (q : SW P ops Q n w0 rest ((d, .int .i64 c) :: e) Rs) : SW P ops Q n w0 ({ dst := some d, op := .convert s t x, type := ty, pos := pos, after := after, guard := none } :: rest) e Rs := sw_op_as (by rw [IntWalk.i64_in _ hc]) q

instance PureOp.min [h : Ev n e x (.int k a)] [h2 : Ev n e y (.int k b)] (ts : Array TypeId) : PureOp P n e (.call { callee := .builtin .min, args := [x, y].toArray, argTypes := ts }) ty (.int k (if b < a then b else a)) :=
  ⟨fun o h1 _ w => by unfold execOp; rw [h1]; simp [resolve, invoke, builtin, Builtin.min_, Builtin.min2, h.out, h2.out]⟩
instance PureOp.max [h : Ev n e x (.int k a)] [h2 : Ev n e y (.int k b)] (ts : Array TypeId) : PureOp P n e (.call { callee := .builtin .max, args := [x, y].toArray, argTypes := ts }) ty (.int k (if a < b then b else a)) :=
  ⟨fun o h1 _ w => by unfold execOp; rw [h1]; simp [resolve, invoke, builtin, Builtin.max_, Builtin.max2, h.out, h2.out]⟩
instance PureOp.neg [h : Ev n e x (.int k a)] : PureOp P n e (.unOp .neg t x) ty (.int k (k.wrap (0 - a))) :=
  ⟨fun o h1 _ w => by unfold execOp; rw [h1]; simp [h.out, Op.unary, Op.intArith]⟩
end ints

/-- a choice that is not decided: both ways -/
theorem sw_pick {d : Nat} {c a b : Operand} {va vb : Value} {t : Bool} {p : Prop} {pos : String} {after : Array Edge} [hc : Ev n e c (.bool t)] [ha : Ev n e a va] [hb : Ev n e b vb] [hp : BP t p]
    (k1 : p → SW P ops Q n w0 rest ((d, va) :: e) Rs) (k2 : ¬ p → SW P ops Q n w0 rest ((d, vb) :: e) Rs) : SW P ops Q n w0 ({ dst := some d, op := .pick c a b, type := ty, pos := pos, after := after, guard := none } :: rest) e Rs := by
  cases t with
  | true => exact sw_op (h := ⟨fun o h1 _ w _ => by unfold execOp; rw [h1]; simp [hc.out, ha.out, asBool]⟩) (k1 (hp.out.1 rfl))
  | false => exact sw_op (h := ⟨fun o h1 _ w _ => by unfold execOp; rw [h1]; simp [hc.out, hb.out, asBool]⟩) (k2 (fun h => by have := hp.out.2 h; cases this))

/-! bools, pointers -/
instance PureOp.not (x : Operand) (b : Bool) (t : TypeId) [h : Ev n e x (.bool b)] : PureOp P n e (.unOp .not t x) ty (.bool (!b)) := ⟨fun o h1 _ w => by unfold execOp; rw [h1]; simp [h.out, Op.unary]⟩

section eqs
variable {x y : Operand} {t t' : TypeId}
theorem run_eq_of {a b : Value} {o : Oper} {r : Bool} (h1 : o.op = .binOp .eql t x y t') [hx : Ev n e x a] [hy : Ev n e y b] (w : World) (hg : (eqGuard .eql t x y a b).run P w = .ok () w) (hb : (binOp .eql t a b).run P w = .ok (.bool r) w) :
    (execOp (act n e).eval o).run P w = .ok (.value (.bool r)) w := by
  unfold execOp; rw [h1]; simp [hx.out, hy.out, hg, hb]
theorem run_ne_of {a b : Value} {o : Oper} {r : Bool} (h1 : o.op = .binOp .neq t x y t') [hx : Ev n e x a] [hy : Ev n e y b] (w : World) (hg : (eqGuard .neq t x y a b).run P w = .ok () w) (hb : (binOp .neq t a b).run P w = .ok (.bool r) w) :
    (execOp (act n e).eval o).run P w = .ok (.value (.bool r)) w := by
  unfold execOp; rw [h1]; simp [hx.out, hy.out, hg, hb]

theorem run_equalIn_bool (d : Nat) (a b : Bool) [hu : Und P t .bool] (w : World) : (Op.equalIn (d + 1) t (.bool a) (.bool b)).run P w = .ok (a == b) w := by
  simp [Op.equalIn, run_und (t := t)]
theorem run_equalIn_ptr (d : Nat) (p : Option Addr) (u : TypeId) [hu : Und P t (.pointer u)] (w : World) : (Op.equalIn (d + 1) t (.pointer p) (.pointer none)).run P w = .ok p.isNone w := by
  cases p <;> simp [Op.equalIn, run_und (t := t)]
theorem run_eql_of {w : World} (a b : Value) {r : Bool} (hc : binOp .eql t a b = (do pure (.bool (← Op.equal t a b)))) (h : ∀ d, (Op.equalIn (d + 1) t a b).run P w = .ok r w) : (binOp .eql t a b).run P w = .ok (.bool r) w := by
  have h2 : (Op.equal t a b).run P w = .ok r w := h 9999
  rw [hc]; simp [h2]
theorem run_neq_of {w : World} (a b : Value) {r : Bool} (hc : binOp .neq t a b = (do pure (.bool (!(← Op.equal t a b))))) (h : ∀ d, (Op.equalIn (d + 1) t a b).run P w = .ok r w) : (binOp .neq t a b).run P w = .ok (.bool (!r)) w := by
  have h2 : (Op.equal t a b).run P w = .ok r w := h 9999
  rw [hc]; simp [h2]
instance PureOp.beq (a b : Bool) [hx : Ev n e x (.bool a)] [hy : Ev n e y (.bool b)] [hu : Und P t .bool] : PureOp P n e (.binOp .eql t x y t') ty (.bool (a == b)) :=
  ⟨fun o h1 _ w => run_eq_of h1 w (by simp [eqGuard]) (run_eql_of (.bool a) (.bool b) rfl fun d => run_equalIn_bool d a b w)⟩
instance PureOp.bne (a b : Bool) [hx : Ev n e x (.bool a)] [hy : Ev n e y (.bool b)] [hu : Und P t .bool] : PureOp P n e (.binOp .neq t x y t') ty (.bool (!(a == b))) :=
  ⟨fun o h1 _ w => run_ne_of h1 w (by simp [eqGuard]) (run_neq_of (.bool a) (.bool b) rfl fun d => run_equalIn_bool d a b w)⟩
theorem pure_peq_nil (p : Option Addr) (u : TypeId) [hx : Ev n e x (.pointer p)] [hy : Ev n e y (.pointer none)] [hu : Und P t (.pointer u)] : PureOp P n e (.binOp .eql t x y t') ty (.bool p.isNone) :=
  ⟨fun o h1 _ w => run_eq_of h1 w (by simp [eqGuard]) (run_eql_of (.pointer p) (.pointer none) rfl fun d => run_equalIn_ptr d p u w)⟩
theorem pure_pne_nil (p : Option Addr) (u : TypeId) [hx : Ev n e x (.pointer p)] [hy : Ev n e y (.pointer none)] [hu : Und P t (.pointer u)] : PureOp P n e (.binOp .neq t x y t') ty (.bool (!p.isNone)) :=
  ⟨fun o h1 _ w => run_ne_of h1 w (by simp [eqGuard]) (run_neq_of (.pointer p) (.pointer none) rfl fun d => run_equalIn_ptr d p u w)⟩
instance PureOp.peq_none (u : TypeId) [hx : Ev n e x (.pointer none)] [hy : Ev n e y (.pointer none)] [hu : Und P t (.pointer u)] : PureOp P n e (.binOp .eql t x y t') ty (.bool true) := pure_peq_nil none u
instance PureOp.peq_some (a : Addr) (u : TypeId) [hx : Ev n e x (.pointer (some a))] [hy : Ev n e y (.pointer none)] [hu : Und P t (.pointer u)] : PureOp P n e (.binOp .eql t x y t') ty (.bool false) := pure_peq_nil (some a) u
instance PureOp.pne_none (u : TypeId) [hx : Ev n e x (.pointer none)] [hy : Ev n e y (.pointer none)] [hu : Und P t (.pointer u)] : PureOp P n e (.binOp .neq t x y t') ty (.bool false) := pure_pne_nil none u
instance PureOp.pne_some (a : Addr) (u : TypeId) [hx : Ev n e x (.pointer (some a))] [hy : Ev n e y (.pointer none)] [hu : Und P t (.pointer u)] : PureOp P n e (.binOp .neq t x y t') ty (.bool true) := pure_pne_nil (some a) u
end eqs

/-- Tests on closed terms. -/
instance BP.none {α : Type} : BP (none : Option α).isNone True := ⟨by simp⟩
instance BP.some {α : Type} (a : α) : BP (some a).isNone False := ⟨by simp⟩
instance BP.beq (a b : Bool) (p q : Prop) [ha : BP a p] [hb : BP b q] : BP (a == b) (p ↔ q) := ⟨by rw [← ha.out, ← hb.out]; cases a <;> cases b <;> simp⟩
instance BP.str (a b : ByteArray) : BP (a.toList == b.toList) (a = b) := ⟨by
  rw [ByteArray.toList_eq, ByteArray.toList_eq]
  constructor
  · intro h
    have h2 : a.data.toList = b.data.toList := by simpa using h
    obtain ⟨⟨x⟩⟩ := a
    obtain ⟨⟨y⟩⟩ := b
    simp at h2
    rw [h2]
  · rintro rfl; simp⟩
instance BP.t : BP true True := ⟨by simp⟩
instance BP.f : BP false False := ⟨by simp⟩

/-! strings -/
section strs
variable {x y : Operand} {t t' : TypeId} {a b : ByteArray}
instance PureOp.seq [hx : Ev n e x (.string a)] [hy : Ev n e y (.string b)] : PureOp P n e (.binOp .eql t x y t') ty (.bool (a.toList == b.toList)) :=
  ⟨fun o h1 _ w => run_eq_of h1 w (by simp [eqGuard]) rfl⟩
instance PureOp.sne [hx : Ev n e x (.string a)] [hy : Ev n e y (.string b)] : PureOp P n e (.binOp .neq t x y t') ty (.bool (!(a.toList == b.toList))) :=
  ⟨fun o h1 _ w => run_ne_of h1 w (by simp [eqGuard]) rfl⟩
instance PureOp.slen [hx : Ev n e x (.string a)] [hu : Und P t .string] : PureOp P n e (.call { callee := .builtin .len, args := [x].toArray, argTypes := [t].toArray }) ty (.int .i64 a.size) :=
  ⟨fun o h1 _ w => by unfold execOp; rw [h1]; simp [resolve, invoke, builtin, Builtin.len_, hx.out, run_und (t := t), goInt]⟩
end strs

/-! ### structs in memory -/
class Fld (P : Program) (s : TypeId) (f : Nat) (off : outParam Nat) : Prop where out : ∀ a w, (Instr.fieldAt s (.pointer (some a)) f).run P w = .ok (.pointer (some (a.add off))) w
theorem Fld.of {s : TypeId} {f off t : Nat} {fs : Array Field} {z : Nat} (hu : P.underlying s = some (.struct fs)) (hf : (fs[f]?).map (fun g => (g.offset, g.type)) = some (off, t)) (hs : ∀ w, (sizeOf t).run P w = .ok (z + 1) w) : Fld P s f off := by
  obtain ⟨g, hg, he⟩ := Option.map_eq_some_iff.1 hf
  simp only [Prod.mk.injEq] at he
  obtain ⟨rfl, rfl⟩ := he
  exact ⟨fun a w => by simp [Instr.fieldAt, underlying, hu, hg, Instr.sureAddr, fieldPlace, hs]⟩

instance PureOp.field0 (s : TypeId) (x : Operand) (f b off : Nat) [h : Ev n e x (.pointer (some ⟨b, 0, none⟩))] [hf : Fld P s f off] : PureOp P n e (.fieldAddr s x f) ty (.pointer (some ⟨b, off, none⟩)) :=
  ⟨fun o h1 _ w => by
    unfold execOp; rw [h1]
    simp only [h.out, Sem.run_bind, hf.out, Result.andThen_ok, Sem.run_pure]
    simp [Addr.add]; exact fun h => h.symm⟩
instance (priority := 50) PureOp.fieldN (s : TypeId) (x : Operand) (f b k off : Nat) [h : Ev n e x (.pointer (some ⟨b, k, none⟩))] [hf : Fld P s f off] : PureOp P n e (.fieldAddr s x f) ty (.pointer (some ⟨b, k + off, none⟩)) :=
  ⟨fun o h1 _ w => by
    unfold execOp; rw [h1]
    simp only [h.out, Sem.run_bind, hf.out, Result.andThen_ok, Sem.run_pure]
    simp [Addr.add]⟩

class CellAt (cs : Array Value) (i : Nat) (v : outParam Value) : Prop where out : cs[i]? = some v
instance CellAt.lit (l : List Value) (i : Nat) (v : Value) [h : TupAt l i v] : CellAt l.toArray i v := ⟨by simpa using h.out⟩

theorem cell_of {w : World} {b i : Nat} {cs : Array Value} {t : TypeId} {fr : Nat × Nat} {v : Value} (hb : w.heap[b]? = some (.cells cs t fr)) (hc : cs[i]? = some v) : w.cell? ⟨b, i, none⟩ = some v := by
  simp [World.cell?, hb, hc]

instance RunOp.load (t : TypeId) (x : Operand) (b i : Nat) (cs : Array Value) (ty' : TypeId) (fr : Nat × Nat) (v : Value) (F : List Res) [h : Ev n e x (.pointer (some ⟨b, i, none⟩))] [ht : Take Rs b (pts b (.cells cs ty' fr)) F] [hn : NonAgg P t] [hc : CellAt cs i v] :
    RunOp P n w0 e Rs (.load t x) ty v :=
  ⟨fun o h1 _ w hw => by
    unfold execOp; rw [h1]
    have := cell_of (hw.get ht) hc.out
    simp [h.out, Instr.loadAt, Instr.sureAddr, loadVar, hn.out, this]⟩

/-- a load, the cell given by hand -/
theorem runop_load {t : TypeId} {x : Operand} {a : Addr} {v : Value} [h : Ev n e x (.pointer (some a))] [hn : NonAgg P t] (hc : ∀ w, Sat w0 w Rs → w.cell? a = some v) : RunOp P n w0 e Rs (.load t x) ty v :=
  ⟨fun o h1 _ w hw => by
    unfold execOp; rw [h1]
    simp [h.out, Instr.loadAt, Instr.sureAddr, loadVar, hn.out, hc w hw]⟩

/-! ### stores -/
class One (v : Value) : Prop where out : v.oneCell' = true
instance (b : Bool) : One (.bool b) := ⟨rfl⟩
instance (k : IntKind) (i : Int) : One (.int k i) := ⟨rfl⟩
instance (s : ByteArray) : One (.string s) := ⟨rfl⟩
instance (p : Option Addr) : One (.pointer p) := ⟨rfl⟩
instance (a : Option Addr) (i j : Nat) : One (.slice a i j) := ⟨rfl⟩
instance (r : Option Nat) : One (.map r) := ⟨rfl⟩
instance (r : Option Nat) : One (.chan r) := ⟨rfl⟩
instance (f : Fn) (a b : Array Value) : One (.func f a b) := ⟨rfl⟩
instance : One .nilFunc := ⟨rfl⟩
instance (t : TypeId) (v : Value) : One (.iface t v) := ⟨rfl⟩
instance : One .nilIface := ⟨rfl⟩

theorem cells_one {v : Value} (h : v.oneCell' = true) : v.cells = #[v] := by cases v <;> first | rfl | cases h

theorem setCell_eq {w : World} {b i : Nat} {cs : Array Value} {t : TypeId} {fr : Nat × Nat} {v : Value} (hb : w.heap[b]? = some (.cells cs t fr)) :
    w.setCell ⟨b, i, none⟩ v = { w with heap := w.heap.setIfInBounds b (.cells (cs.setIfInBounds i v) t fr) } := by
  unfold World.setCell
  congr 1
  apply Array.ext_getElem?
  intro j
  rw [Array.getElem?_modify, Array.getElem?_setIfInBounds]
  by_cases hj : b = j
  · subst hj
    obtain ⟨hlt, hg⟩ := Array.getElem?_eq_some_iff.1 hb
    simp [hlt, hg]
  · simp [hj]

class SetAt (l : List Value) (i : Nat) (v : Value) (l' : outParam (List Value)) : Prop where out : i < l.length ∧ l.set i v = l'
instance SetAt.here (u v : Value) (l : List Value) : SetAt (u :: l) 0 v (v :: l) := ⟨by simp⟩
instance SetAt.there (u v : Value) (l l' : List Value) (i : Nat) [h : SetAt l i v l'] : SetAt (u :: l) (i + 1) v (u :: l') := ⟨by simpa using h.out⟩

theorem run_store_cell {t : TypeId} {x y : Operand} {b i : Nat} {cs : Array Value} {ty' : TypeId} {v : Value} {o : Oper} (h1 : o.op = .store t x y) [h : Ev n e x (.pointer (some ⟨b, i, none⟩))] [h2 : Ev n e y v] [hv : One v] [hs : SizeOf P t 1] {w : World}
    (hb : w.heap[b]? = some (.cells cs ty' (0, 0))) (hi : i < cs.size) : (execOp (act n e).eval o).run P w = .ok .skip { w with heap := w.heap.setIfInBounds b (.cells (cs.setIfInBounds i v) ty' (0, 0)) } := by
  unfold execOp; rw [h1]
  have hc : w.cell? ⟨b, i, none⟩ = some cs[i] := cell_of hb (by simp [hi])
  have hf : w.frozen? ⟨b, i, none⟩ = false := by simp [World.frozen?, hb]
  simp [h.out, h2.out, Instr.storeAt, Instr.sureAddr, storeVar, hs.out, cells_one hv.out, storeCells, Addr.add, run_store P w ⟨b, i, none⟩ v .plain hv.out, hc, hf, setCell_eq hb]

theorem sw_store {t : TypeId} {x y : Operand} {b i : Nat} {l l' : List Value} {ty' : TypeId} {v : Value} {pos : String} {after : Array Edge} [h : Ev n e x (.pointer (some ⟨b, i, none⟩))] [h2 : Ev n e y v] [hv : One v] [hs : SizeOf P t 1]
    [ht : Take Rs b (pts b (.cells l.toArray ty' (0, 0))) F] [hl : SetAt l i v l'] (k : SW P ops Q n w0 rest e ((b, pts b (.cells l'.toArray ty' (0, 0))) :: F)) :
    SW P ops Q n w0 ({ dst := none, op := .store t x y, type := ty, pos := pos, after := after, guard := none } :: rest) e Rs := by
  intro w hw
  refine wpM_skip rfl (run_store_cell (b := b) (i := i) (v := v) rfl (hw.get ht) (by simpa using hl.out.1)) (k _ ?_)
  have h3 : l.toArray.setIfInBounds i v = l'.toArray := by simp [hl.out.2]
  rw [h3]
  exact hw.set ht (.cells l'.toArray ty' (0, 0))

/-- a new variable with a value -/
class Cells (v : Value) (cs : outParam (List Value)) : Prop where out : v.cells = cs.toArray
instance (b : Bool) : Cells (.bool b) [.bool b] := ⟨rfl⟩
instance (k : IntKind) (i : Int) : Cells (.int k i) [.int k i] := ⟨rfl⟩
instance (s : ByteArray) : Cells (.string s) [.string s] := ⟨rfl⟩
instance (p : Option Addr) : Cells (.pointer p) [.pointer p] := ⟨rfl⟩
instance (a : Option Addr) (i j : Nat) : Cells (.slice a i j) [.slice a i j] := ⟨rfl⟩
instance (r : Option Nat) : Cells (.map r) [.map r] := ⟨rfl⟩
instance (f : Fn) (a b : Array Value) : Cells (.func f a b) [.func f a b] := ⟨rfl⟩
instance : Cells .nilFunc [.nilFunc] := ⟨rfl⟩
instance (t : TypeId) (v : Value) : Cells (.iface t v) [.iface t v] := ⟨rfl⟩
instance : Cells .nilIface [.nilIface] := ⟨rfl⟩
instance (l : List Value) : Cells (.agg l.toArray) l := ⟨rfl⟩

theorem sw_new {d : Nat} {op : Op} {v : Value} {cs : List Value} {t : TypeId} {pos : String} {after : Array Edge} [hc : Cells v cs] (hr : ∀ o : Oper, o.op = op → ∀ w, (execOp (act n e).eval o).run P w = .ok (.value (.pointer (some ⟨w.heap.size, 0, none⟩))) { w with heap := w.heap.push (.cells v.cells t) })
    (k : ∀ b, SW P ops Q n w0 rest ((d, .pointer (some ⟨b, 0, none⟩)) :: e) ((b, pts b (.cells cs.toArray t (0, 0))) :: Rs)) :
    SW P ops Q n w0 ({ dst := some d, op := op, type := ty, pos := pos, after := after, guard := none } :: rest) e Rs := by
  intro w hw
  refine wpM_value rfl (hr _ rfl w) ?_
  rw [actM_put, hc.out]
  exact k w.heap.size _ (hw.new _)

theorem sw_box {d : Nat} {x : Operand} {v : Value} {cs : List Value} {t : TypeId} {pos : String} {after : Array Edge} [h : Ev n e x v] [hc : Cells v cs]
    (k : ∀ b, SW P ops Q n w0 rest ((d, .pointer (some ⟨b, 0, none⟩)) :: e) ((b, pts b (.cells cs.toArray t (0, 0))) :: Rs)) :
    SW P ops Q n w0 ({ dst := some d, op := .box t x, type := ty, pos := pos, after := after, guard := none } :: rest) e Rs :=
  sw_new (v := v) (fun o h1 w => by unfold execOp; rw [h1]; simp [h.out, Instr.box, newVar, newRow]) k

theorem sw_alloc {d : Nat} {v : Value} {cs : List Value} {t : TypeId} {pos : String} {after : Array Edge} [h : ZeroOf P t v] [hc : Cells v cs]
    (k : ∀ b, SW P ops Q n w0 rest ((d, .pointer (some ⟨b, 0, none⟩)) :: e) ((b, pts b (.cells cs.toArray t (0, 0))) :: Rs)) :
    SW P ops Q n w0 ({ dst := some d, op := .alloc t, type := ty, pos := pos, after := after, guard := none } :: rest) e Rs :=
  sw_new (v := v) (fun o h1 w => by unfold execOp; rw [h1]; simp [h.out, Instr.alloc, newVar, newRow]) k

/-! struct values -/
class PartsL (n : Nat) (e : Env) (xs : List (Nat × Operand)) (vs : outParam (List (Nat × Value))) : Prop where out : xs.map (fun p => (p.1, (act n e).eval p.2)) = vs
instance PartsL.nil : PartsL n e [] [] := ⟨rfl⟩
instance PartsL.cons (i : Nat) (x : Operand) (xs : List (Nat × Operand)) (v : Value) (vs : List (Nat × Value)) [h : Ev n e x v] [h2 : PartsL n e xs vs] : PartsL n e ((i, x) :: xs) ((i, v) :: vs) :=
  ⟨by simp [h.out, h2.out]⟩

/-- the cells' places in a struct -/
class Places (P : Program) (t : TypeId) (pl : outParam (List (Nat × Nat))) : Prop where
  out : ∃ fs : Array Field, P.underlying t = some (.struct fs) ∧ ∀ w, (fs.mapM fun f => Prod.mk f.offset <$> sizeOf f.type : Sem (Array (Nat × Nat))).run P w = .ok pl.toArray w

theorem runop_build {t : TypeId} {xs : List (Nat × Operand)} {vs : List (Nat × Value)} {z : Value} {pl : List (Nat × Nat)} {cs : List Value} [hx : PartsL n e xs vs] [hz : ZeroOf P t z] [hp : Places P t pl] (hf : Instr.fill (fun i => pl[i]?) z.cells vs = some cs.toArray) :
    PureOp P n e (.build t xs.toArray) ty (.agg cs.toArray) :=
  ⟨fun o h1 _ w => by
    unfold execOp; rw [h1]
    obtain ⟨fs, hu, hm⟩ := hp.out
    have h2 : (List.map (fun x : Nat × Operand => match x with | (i, x) => (i, (act n e).eval x)) xs) = vs := by rw [← hx.out]
    simp [Instr.build, hz.out, underlying, hu, hm, h2, hf]⟩

theorem sw_build {d : Nat} {t : TypeId} {xs : List (Nat × Operand)} {vs : List (Nat × Value)} {z : Value} {pl : List (Nat × Nat)} {pos : String} {after : Array Edge} [hx : PartsL n e xs vs] [hz : ZeroOf P t z] [hp : Places P t pl] (cs : List Value) (hf : Instr.fill (fun i => pl[i]?) z.cells vs = some cs.toArray)
    (k : SW P ops Q n w0 rest ((d, .agg cs.toArray) :: e) Rs) : SW P ops Q n w0 ({ dst := some d, op := .build t xs.toArray, type := ty, pos := pos, after := after, guard := none } :: rest) e Rs :=
  have h1 : PureOp P n e (.build t xs.toArray) ty (.agg cs.toArray) := runop_build (ty := ty) hf
  sw_op (h := @RunOp.pure P n w0 e Rs _ _ _ h1) k

end
end Go.Gsl

namespace Go.Gsl
set_option linter.unusedVariables false

section
variable {P : Program} {ops : List Oper} {Q : Cont} {n : Nat} {w0 : World} {l rest : List Oper} {e : Env} {Rs Rs' F : List Res} {ty : TypeId}

/-! ### sync/atomic -/
class AtLoad (P : Program) (f : FuncId) (k : outParam IntKind) : Prop where
  out : ∀ a x w, World.cell? w a = some (.int k x) → (callFunc f #[.pointer (some a)]).run P w = .ok (.value (.int k x)) w
class AtStore (P : Program) (f : FuncId) (k : outParam IntKind) : Prop where
  out : ∀ a u y w, World.cell? w a = some u → w.frozen? a = false → (callFunc f #[.pointer (some a), .int k y]).run P w = .ok (.value (.tuple #[])) (w.setCell a (.int k y))
class AtAdd (P : Program) (f : FuncId) (k : outParam IntKind) : Prop where
  out : ∀ a x y w, World.cell? w a = some (.int k x) → w.frozen? a = false → (callFunc f #[.pointer (some a), .int k y]).run P w = .ok (.value (.int k (k.wrap (x + y)))) (w.setCell a (.int k (k.wrap (x + y))))

instance RunOp.atLoad (f : FuncId) (k : IntKind) (args : List Operand) (ts : Array TypeId) (b i : Nat) (cs : Array Value) (t : TypeId) (fr : Nat × Nat) (x : Int) (F : List Res) [h : AtLoad P f k] [ha : EvL n e args [.pointer (some ⟨b, i, none⟩)]]
    [ht : Take Rs b (pts b (.cells cs t fr)) F] [hc : CellAt cs i (.int k x)] : RunOp P n w0 e Rs (.call { callee := .value (.func f), args := args.toArray, argTypes := ts }) ty (.int k x) :=
  ⟨fun o h1 _ w hw => by rw [run_call_func h1 ha.out]; exact h.out _ _ _ (cell_of (hw.get ht) hc.out)⟩

theorem sw_atStore {d : Nat} {f : FuncId} {k : IntKind} {args : List Operand} {ts : Array TypeId} {b i : Nat} {cs cs' : List Value} {t : TypeId} {y : Int} {pos : String} {after : Array Edge} [h : AtStore P f k] [ha : EvL n e args [.pointer (some ⟨b, i, none⟩), .int k y]]
    [ht : Take Rs b (pts b (.cells cs.toArray t (0, 0))) F] [hc : SetAt cs i (.int k y) cs']
    (q : SW P ops Q n w0 rest ((d, .tuple #[]) :: e) ((b, pts b (.cells cs'.toArray t (0, 0))) :: F)) :
    SW P ops Q n w0 ({ dst := some d, op := .call { callee := .value (.func f), args := args.toArray, argTypes := ts }, type := ty, pos := pos, after := after, guard := none } :: rest) e Rs := by
  intro w hw
  have hb := hw.get ht
  have hcell : w.cell? ⟨b, i, none⟩ = some cs[i]! := cell_of hb (by have := hc.out.1; simp [this])
  refine wpM_value rfl (by rw [run_call_func rfl ha.out, h.out _ _ _ _ hcell (by simp [World.frozen?, hb]), setCell_eq hb]) ?_
  have h3 : cs.toArray.setIfInBounds i (.int k y) = cs'.toArray := by simp [hc.out.2]
  rw [h3]
  have := q _ (hw.set ht (.cells cs'.toArray t (0, 0)))
  rw [actM_put]; exact this

theorem sw_atAdd {d : Nat} {f : FuncId} {k : IntKind} {args : List Operand} {ts : Array TypeId} {b i : Nat} {cs cs' : List Value} {t : TypeId} {x y : Int} (z : Int) {pos : String} {after : Array Edge} [h : AtAdd P f k] [ha : EvL n e args [.pointer (some ⟨b, i, none⟩), .int k y]]
    [ht : Take Rs b (pts b (.cells cs.toArray t (0, 0))) F] [hx : TupAt cs i (.int k x)] (hz : k.wrap (x + y) = z) [hc : SetAt cs i (.int k z) cs']
    (q : SW P ops Q n w0 rest ((d, .int k z) :: e) ((b, pts b (.cells cs'.toArray t (0, 0))) :: F)) :
    SW P ops Q n w0 ({ dst := some d, op := .call { callee := .value (.func f), args := args.toArray, argTypes := ts }, type := ty, pos := pos, after := after, guard := none } :: rest) e Rs := by
  intro w hw
  subst hz
  have hb := hw.get ht
  have hcell : w.cell? ⟨b, i, none⟩ = some (.int k x) := cell_of hb (by simpa using hx.out)
  refine wpM_value rfl (by rw [run_call_func rfl ha.out, h.out _ _ _ _ hcell (by simp [World.frozen?, hb]), setCell_eq hb]) ?_
  have h3 : cs.toArray.setIfInBounds i (.int k (k.wrap (x + y))) = cs'.toArray := by simp [hc.out.2]
  rw [h3]
  have := q _ (hw.set ht (.cells cs'.toArray t (0, 0)))
  rw [actM_put]; exact this

/-! ### the memory that came in -/
/-- All of W's blocks as they were. (Its key: 0.) -/
def ro (W : World) : HProp := fun h => ∀ (b : Nat) (o : Obj), W.heap[b]? = some o → h b = some (o, true)

theorem ro_block {W : World} [t : Take Rs 0 (ro W) F] {b : Nat} (hb : b < W.heap.size) (w : World) (hw : Sat w0 w Rs) : w.heap[b]? = W.heap[b]? := by
  have : (W.heap[b]?).isSome := by simp [hb]
  obtain ⟨o, ho⟩ := Option.isSome_iff_exists.1 this
  rw [ho]
  exact ((hw.ent t.ent).ent (Ent.head (r' := imm b o) fun x hr => hr b o ho)).get_imm (Take.here _ _ _)

theorem lt_of_cell {W : World} {a : Addr} {v : Value} (h : W.cell? a = some v) : a.block < W.heap.size := by
  unfold World.cell? at h
  split at h
  · rename_i hb; exact (Array.getElem?_eq_some_iff.1 hb).1
  · cases h

theorem ro_cell {W : World} [t : Take Rs 0 (ro W) F] {a : Addr} {v : Value} (h : W.cell? a = some v) (w : World) (hw : Sat w0 w Rs) : w.cell? a = some v := by
  rw [← h]
  exact World.cell?_of_block (w := W) (ro_block (t := t) (lt_of_cell h) w hw)

theorem sat_start (W : World) : Sat W W [(0, ro W)] := by
  refine ⟨⟨rfl, rfl, rfl⟩, fun k => (W.heap[k]?).map fun o => (o, true), ?_, fun k => (W.heap[k]?).map fun o => (o, true), fun _ => none, fun _ => .inr (.inl rfl), ?_, fun b o ho => by simp [ho], trivial⟩
  · intro k o f h
    simp only at h
    cases hk : W.heap[k]? with
    | none => rw [hk] at h; cases h
    | some p => rw [hk] at h; simp at h; rw [h.1]
  · funext k; simp [hjoin]

theorem below_of_sat {W w : World} (h : Sat W w Rs) [t : Take Rs 0 (ro W) F] : RowKit.Below W.heap.size W w := by
  refine ⟨h.1.1, h.1.2.1, h.1.2.2, ?_, fun k hk => ro_block (t := t) hk w h⟩
  rcases Nat.eq_zero_or_pos W.heap.size with h0 | h0
  · omega
  · have := ro_block (t := t) (b := W.heap.size - 1) (by omega) w h
    have h2 : (W.heap[W.heap.size - 1]?).isSome := by simp; omega
    rw [← this] at h2
    have : W.heap.size - 1 < w.heap.size := by simpa using h2
    omega

/-! ### maps keyed by integers -/
structure Ent3 where
  key : Int
  val : Value
  born : Nat

def Ent3.mk' (k : IntKind) (x : Ent3) : MapEntry := ⟨.int k x.key, x.val, x.born⟩
def entries (k : IntKind) (L : List Ent3) : Array MapEntry := (L.map (Ent3.mk' k)).toArray
def lk : List Ent3 → Int → Option Value
  | [], _ => none
  | x :: L, i => if x.key = i then some x.val else lk L i

structure Good (L : List Ent3) (clock : Nat) : Prop where
  keys : (L.map (·.key)).Nodup
  borns : (L.map (·.born)).Nodup
  lt : ∀ x ∈ L, x.born < clock

/-- Block b is a map that holds just this. -/
def MapI (k : IntKind) (b : Nat) (f : Int → Option Value) : HProp := fun h => ∃ L clock, (Good L clock ∧ lk L = f) ∧ pts b (.map (entries k L) clock) h

def ix : List Ent3 → Int → Nat → Option (Nat × Value)
  | [], _, _ => none
  | x :: L, i, j => if x.key = i then some (j, x.val) else ix L i (j + 1)

theorem findNow_entries (k k' : IntKind) (i : Int) : ∀ (L : List Ent3) (j : Nat), Instr.findNow (.int k') (.int k i) (L.map (Ent3.mk' k)) j = some (ix L i j)
  | [], j => rfl
  | x :: L, j => by
    simp only [List.map_cons, Instr.findNow, Ent3.mk', Instr.sameNow, if_true, ix]
    by_cases h : x.key = i
    · subst h; simp
    · have h2 : (i == x.key) = false := by simpa using fun e => h e.symm
      simp only [h2, h, if_false]
      exact findNow_entries k k' i L (j + 1)

theorem ix_lk : ∀ (L : List Ent3) (i : Int) (j : Nat), (ix L i j).map (·.2) = lk L i
  | [], _, _ => rfl
  | x :: L, i, j => by
    simp only [ix, lk]
    split
    · rfl
    · exact ix_lk L i (j + 1)

theorem ix_lt : ∀ (L : List Ent3) (i : Int) (j m : Nat) (v : Value), ix L i j = some (m, v) → ∃ r, m = j + r ∧ ∃ b, L[r]? = some ⟨i, v, b⟩
  | [], _, _, _, _, h => by cases h
  | x :: L, i, j, m, v, h => by
    simp only [ix] at h
    split at h
    · rename_i hk
      simp only [Option.some.injEq, Prod.mk.injEq] at h
      obtain ⟨rfl, rfl⟩ := h
      subst hk
      exact ⟨0, rfl, x.born, by simp⟩
    · obtain ⟨r, rfl, b, hb⟩ := ix_lt L i (j + 1) m v h
      exact ⟨r + 1, by omega, b, by simpa using hb⟩

theorem ix_none : ∀ (L : List Ent3) (i : Int) (j : Nat), ix L i j = none → ∀ x ∈ L, x.key ≠ i
  | [], _, _, _ => by simp
  | x :: L, i, j, h => by
    simp only [ix] at h
    split at h
    · cases h
    · rename_i hk
      intro y hy
      rcases List.mem_cons.1 hy with rfl | hy
      · exact hk
      · exact ix_none L i (j + 1) h y hy

theorem run_checkKey_int {P : Program} {kt : TypeId} {k' : IntKind} (hu : P.underlying kt = some (.int k')) (em : Bool) (m : Nat) (v : Value) (w : World) : (Instr.checkKey em (m + 1) kt v).run P w = .ok () w := by
  have : (underlying kt).run P w = .ok (.int k') w := by simp [underlying, hu]
  cases v <;> simp [Instr.checkKey, this]

theorem run_findKey_int {P : Program} {kt : TypeId} {k k' : IntKind} (hu : P.underlying kt = some (.int k')) (i : Int) (L : List Ent3) (w : World) : (Instr.findKey kt (.int k i) (entries k L).toList).run P w = .ok (ix L i 0) w := by
  have : (underlying kt).run P w = .ok (.int k') w := by simp [underlying, hu]
  simp [Instr.findKey, this, entries, findNow_entries]

theorem get_map {w : World} {k : IntKind} {b : Nat} {f : Int → Option Value} (hw : Sat w0 w Rs) (t : Take Rs b (MapI k b f) F) : ∃ L clock, Good L clock ∧ lk L = f ∧ w.heap[b]? = some (.map (entries k L) clock) ∧
    ∀ L' clock' g, Good L' clock' → lk L' = g → Sat w0 { w with heap := w.heap.setIfInBounds b (.map (entries k L') clock') } ((b, MapI k b g) :: F) := by
  obtain ⟨⟨L, clock⟩, ⟨hg, hl⟩, h1⟩ := (hw.ent t.ent).opn (α := List Ent3 × Nat) (φ := fun a => Good a.1 a.2 ∧ lk a.1 = f) (p := fun a => pts b (.map (entries k a.1) a.2)) (by rintro x ⟨L, clock, h, hp⟩; exact ⟨(L, clock), h, hp⟩)
  refine ⟨L, clock, hg, hl, h1.get (Take.here _ _ _), ?_⟩
  intro L' clock' g hg' hl'
  exact (h1.set (Take.here _ _ _) (.map (entries k L') clock')).ent (Ent.head fun x hp => ⟨L', clock', ⟨hg', hl'⟩, hp⟩)

/-- m[i] -/
theorem runop_lookup {t kt et : TypeId} {x y : Operand} {k k' : IntKind} {b : Nat} {f : Int → Option Value} {i : Int} {z : Value} [hx : Ev n e x (.map (some b))] [hy : Ev n e y (.int k i)] [hu : Und P t (.map kt et)] [hk : Und P kt (.int k')] [hz : ZeroOf P et z]
    [ht : Take Rs b (MapI k b f) F] : RunOp P n w0 e Rs (.lookup t x y false) ty ((f i).getD z) :=
  ⟨fun o h1 _ w hw => by
    obtain ⟨L, clock, hg, hl, hb, _⟩ := get_map hw ht
    unfold execOp; rw [h1]
    have h2 : (getObj b).run P w = .ok (.map (entries k L) clock) w := by simp [getObj, Sem.run, hb]
    have h3 := run_checkKey_int (kt := kt) hk.out (entries k L).isEmpty 9999 (.int k i) w
    have h4 := run_findKey_int (k := k) (kt := kt) hk.out i L w
    have h5 : (ix L i 0).map (·.2) = f i := by rw [ix_lk, hl]
    simp only [hx.out, hy.out, Instr.lookup, Sem.run_bind, run_und (t := t), Result.andThen_ok, h2, Sem.run_pure, h3, h4]
    cases hi : ix L i 0 with
    | none => rw [hi] at h5; simp only [Option.map_none] at h5; simp [← h5, hz.out]
    | some p => rw [hi] at h5; simp only [Option.map_some] at h5; simp [← h5]⟩

/-- v, ok := m[i] -/
theorem runop_lookup2 {t kt et : TypeId} {x y : Operand} {k k' : IntKind} {b : Nat} {f : Int → Option Value} {i : Int} {z : Value} [hx : Ev n e x (.map (some b))] [hy : Ev n e y (.int k i)] [hu : Und P t (.map kt et)] [hk : Und P kt (.int k')] [hz : ZeroOf P et z]
    [ht : Take Rs b (MapI k b f) F] : RunOp P n w0 e Rs (.lookup t x y true) ty (.tuple [(f i).getD z, .bool (f i).isSome].toArray) :=
  ⟨fun o h1 _ w hw => by
    obtain ⟨L, clock, hg, hl, hb, _⟩ := get_map hw ht
    unfold execOp; rw [h1]
    have h2 : (getObj b).run P w = .ok (.map (entries k L) clock) w := by simp [getObj, Sem.run, hb]
    have h3 := run_checkKey_int (kt := kt) hk.out (entries k L).isEmpty 9999 (.int k i) w
    have h4 := run_findKey_int (k := k) (kt := kt) hk.out i L w
    have h5 : (ix L i 0).map (·.2) = f i := by rw [ix_lk, hl]
    simp only [hx.out, hy.out, Instr.lookup, Sem.run_bind, run_und (t := t), Result.andThen_ok, h2, Sem.run_pure, h3, h4]
    cases hi : ix L i 0 with
    | none => rw [hi] at h5; simp only [Option.map_none] at h5; simp [← h5, hz.out]
    | some p => rw [hi] at h5; simp only [Option.map_some] at h5; simp [← h5]⟩

instance RunOp.lookup (t kt et : TypeId) (x y : Operand) (k k' : IntKind) (b : Nat) (f : Int → Option Value) (i : Int) (z : Value) (F : List Res) [Ev n e x (.map (some b))] [Ev n e y (.int k i)] [Und P t (.map kt et)] [Und P kt (.int k')] [ZeroOf P et z]
    [Take Rs b (MapI k b f) F] : RunOp P n w0 e Rs (.lookup t x y false) ty ((f i).getD z) := runop_lookup
instance RunOp.lookup2 (t kt et : TypeId) (x y : Operand) (k k' : IntKind) (b : Nat) (f : Int → Option Value) (i : Int) (z : Value) (F : List Res) [Ev n e x (.map (some b))] [Ev n e y (.int k i)] [Und P t (.map kt et)] [Und P kt (.int k')] [ZeroOf P et z]
    [Take Rs b (MapI k b f) F] : RunOp P n w0 e Rs (.lookup t x y true) ty (.tuple [(f i).getD z, .bool (f i).isSome].toArray) := runop_lookup2

def mput (f : Int → Option Value) (i : Int) (v : Value) : Int → Option Value := fun j => if j = i then some v else f j
def mdel (f : Int → Option Value) (i : Int) : Int → Option Value := fun j => if j = i then none else f j
def mnil : Int → Option Value := fun _ => none

theorem lk_none : ∀ (L : List Ent3) (i : Int), (∀ x ∈ L, x.key ≠ i) → lk L i = none
  | [], _, _ => rfl
  | x :: L, i, h => by
    have h1 := h x (by simp)
    simp [lk, h1, lk_none L i fun y hy => h y (by simp [hy])]

theorem lk_append_new : ∀ (L : List Ent3) (x : Ent3) (i : Int), (∀ y ∈ L, y.key ≠ x.key) → lk (L ++ [x]) i = if i = x.key then some x.val else lk L i
  | [], x, i, _ => by simp [lk, eq_comm]
  | y :: L, x, i, h => by
    simp only [List.cons_append, lk]
    have hy := h y (by simp)
    rw [lk_append_new L x i fun z hz => h z (by simp [hz])]
    by_cases h1 : y.key = i
    · subst h1; simp [hy]
    · simp [h1]

theorem lk_set : ∀ (L : List Ent3) (r : Nat) (x : Ent3) (y : Ent3) (i : Int), (L.map (·.key)).Nodup → L[r]? = some x → y.key = x.key → lk (L.set r y) i = if i = x.key then some y.val else lk L i
  | [], r, x, y, i, _, h, _ => by simp at h
  | z :: L, 0, x, y, i, hn, h, hk => by
    simp only [List.getElem?_cons_zero, Option.some.injEq] at h
    subst h
    simp only [List.set_cons_zero, lk, hk]
    by_cases h1 : z.key = i
    · simp [h1]
    · simp [h1, Ne.symm h1]
  | z :: L, r + 1, x, y, i, hn, h, hk => by
    simp only [List.getElem?_cons_succ] at h
    simp only [List.map_cons, List.nodup_cons] at hn
    simp only [List.set_cons_succ, lk]
    rw [lk_set L r x y i hn.2 h hk]
    have hm : x ∈ L := List.mem_of_getElem? h
    have : z.key ≠ x.key := fun e => hn.1 (by rw [e]; exact List.mem_map_of_mem hm)
    by_cases h1 : z.key = i
    · subst h1; simp [this]
    · simp [h1]

theorem lk_erase : ∀ (L : List Ent3) (r : Nat) (x : Ent3) (i : Int), (L.map (·.key)).Nodup → L[r]? = some x → lk (L.eraseIdx r) i = if i = x.key then none else lk L i
  | [], r, x, i, _, h => by simp at h
  | z :: L, 0, x, i, hn, h => by
    simp only [List.getElem?_cons_zero, Option.some.injEq] at h
    subst h
    simp only [List.map_cons, List.nodup_cons] at hn
    simp only [List.eraseIdx_cons_zero, lk]
    by_cases h1 : i = z.key
    · subst h1
      simp only [if_true]
      exact lk_none L _ fun y hy e => hn.1 (by rw [← e]; exact List.mem_map_of_mem hy)
    · have h2 : z.key ≠ i := fun e => h1 e.symm
      simp [h1, h2]
  | z :: L, r + 1, x, i, hn, h => by
    simp only [List.getElem?_cons_succ] at h
    simp only [List.map_cons, List.nodup_cons] at hn
    simp only [List.eraseIdx_cons_succ, lk]
    rw [lk_erase L r x i hn.2 h]
    have hm : x ∈ L := List.mem_of_getElem? h
    have : z.key ≠ x.key := fun e => hn.1 (by rw [e]; exact List.mem_map_of_mem hm)
    by_cases h1 : z.key = i
    · subst h1; simp [this]
    · simp [h1]

theorem Good.push {L : List Ent3} {clock : Nat} (h : Good L clock) (i : Int) (v : Value) (hi : ∀ x ∈ L, x.key ≠ i) : Good (L ++ [⟨i, v, clock⟩]) (clock + 1) := by
  refine ⟨?_, ?_, ?_⟩
  · simp only [List.map_append, List.map_cons, List.map_nil]
    refine List.nodup_append.2 ⟨h.keys, by simp, ?_⟩
    rintro a ha b hb rfl
    simp only [List.mem_singleton] at hb
    obtain ⟨x, hx, e⟩ := List.mem_map.1 ha
    exact hi x hx (by rw [e, hb])
  · simp only [List.map_append, List.map_cons, List.map_nil]
    refine List.nodup_append.2 ⟨h.borns, by simp, ?_⟩
    rintro a ha b hb rfl
    simp only [List.mem_singleton] at hb
    obtain ⟨x, hx, e⟩ := List.mem_map.1 ha
    have := h.lt x hx
    omega
  · intro x hx
    rcases List.mem_append.1 hx with hx | hx
    · have := h.lt x hx; omega
    · simp only [List.mem_singleton] at hx; subst hx; simp

theorem map_set_same {α β : Type} (g : α → β) : ∀ (L : List α) (r : Nat) (x y : α), L[r]? = some x → g y = g x → (L.set r y).map g = L.map g
  | [], _, _, _, h, _ => by simp at h
  | z :: L, 0, x, y, h, hg => by simp at h; subst h; simp [hg]
  | z :: L, r + 1, x, y, h, hg => by simp at h; simp [map_set_same g L r x y h hg]

theorem Good.set {L : List Ent3} {clock : Nat} (h : Good L clock) {r : Nat} {x : Ent3} (hr : L[r]? = some x) (v : Value) : Good (L.set r ⟨x.key, v, x.born⟩) clock := by
  refine ⟨?_, ?_, ?_⟩
  · rw [map_set_same (·.key) L r x ⟨x.key, v, x.born⟩ hr rfl]; exact h.keys
  · rw [map_set_same (·.born) L r x ⟨x.key, v, x.born⟩ hr rfl]; exact h.borns
  · intro y hy
    rcases List.mem_or_eq_of_mem_set hy with hy | rfl
    · exact h.lt y hy
    · exact h.lt x (List.mem_of_getElem? hr)

theorem Good.erase {L : List Ent3} {clock : Nat} (h : Good L clock) (r : Nat) : Good (L.eraseIdx r) clock := by
  have hs : (L.eraseIdx r).Sublist L := List.eraseIdx_sublist ..
  exact ⟨h.keys.sublist (hs.map _), h.borns.sublist (hs.map _), fun x hx => h.lt x (hs.subset hx)⟩

theorem eraseIdx_mapped {α β : Type} (g : α → β) : ∀ (L : List α) (r : Nat), (L.map g).eraseIdx r = (L.eraseIdx r).map g
  | [], _ => rfl
  | _ :: _, 0 => rfl
  | x :: L, r + 1 => by simp [eraseIdx_mapped g L r]

theorem run_setObj_map {w : World} {b : Nat} {es es' : Array MapEntry} {c c' : Nat} (hb : w.heap[b]? = some (.map es c)) : (setObj b (.map es' c')).run P w = .ok () { w with heap := w.heap.setIfInBounds b (.map es' c') } := by
  simp [setObj, Sem.run, hb]

/-- m[i] = v -/
theorem sw_mapUpdate {t kt et : TypeId} {x y z : Operand} {k k' : IntKind} {b : Nat} {f : Int → Option Value} {i : Int} {v : Value} {pos : String} {after : Array Edge} [hx : Ev n e x (.map (some b))] [hy : Ev n e y (.int k i)] [hz : Ev n e z v] [hu : Und P t (.map kt et)] [hk : Und P kt (.int k')]
    [ht : Take Rs b (MapI k b f) F] (q : SW P ops Q n w0 rest e ((b, MapI k b (mput f i v)) :: F)) :
    SW P ops Q n w0 ({ dst := none, op := .mapUpdate t x y z, type := ty, pos := pos, after := after, guard := none } :: rest) e Rs := by
  intro w hw
  obtain ⟨L, clock, hg, hl, hb, hset⟩ := get_map hw ht
  have h2 : (getObj b).run P w = .ok (.map (entries k L) clock) w := by simp [getObj, Sem.run, hb]
  have h3 := run_checkKey_int (kt := kt) hk.out false 9999 (.int k i) w
  have h4 := run_findKey_int (k := k) (kt := kt) hk.out i L w
  suffices hrun : ∃ L' clock', Good L' clock' ∧ lk L' = mput f i v ∧ ∀ o : Oper, o.op = .mapUpdate t x y z → (execOp (act n e).eval o).run P w = .ok .skip { w with heap := w.heap.setIfInBounds b (.map (entries k L') clock') } by
    obtain ⟨L', clock', hg', hl', hr⟩ := hrun
    exact wpM_skip rfl (hr _ rfl) (q _ (hset L' clock' _ hg' hl'))
  cases hi : ix L i 0 with
  | none =>
    have hno := ix_none L i 0 hi
    refine ⟨L ++ [⟨i, v, clock⟩], clock + 1, hg.push i v hno, ?_, ?_⟩
    · funext j; rw [lk_append_new L ⟨i, v, clock⟩ j hno, hl]; rfl
    · intro o h1
      unfold execOp; rw [h1]
      simp only [hx.out, hy.out, hz.out, Instr.mapUpdate, Sem.run_bind, run_und (t := t), Result.andThen_ok, h2, h3, h4, hi, run_setObj_map hb]
      simp [entries, Ent3.mk']
  | some p =>
    obtain ⟨m, u⟩ := p
    obtain ⟨r, rfl, bn, hr⟩ := ix_lt L i 0 m u hi
    rw [Nat.zero_add] at hi
    refine ⟨L.set r ⟨i, v, bn⟩, clock, hg.set hr v, ?_, ?_⟩
    · funext j; rw [lk_set L r _ ⟨i, v, bn⟩ j hg.keys hr rfl, hl]; rfl
    · intro o h1
      unfold execOp; rw [h1]
      have hlt : r < L.length := (List.getElem?_eq_some_iff.1 hr).1
      have hkey : (((entries k L)[r]?).map (·.key)).getD (.int k i) = .int k i := by simp [entries, hr, Ent3.mk']
      have hstay : (Instr.keyThatStays (.int k i) (.int k i)).run P w = .ok (.int k i) w := by simp [Instr.keyThatStays, Instr.sameBits]
      have hmod : (entries k L).modify r (fun e => { e with key := .int k i, val := v }) = entries k (L.set r ⟨i, v, bn⟩) := by
        unfold entries
        apply Array.ext_getElem?
        intro j
        rw [Array.getElem?_modify]
        by_cases hj : r = j
        · subst hj
          obtain ⟨hlt', hge⟩ := List.getElem?_eq_some_iff.1 hr
          simp [hlt, hge, Ent3.mk']
        · simp [hj, List.getElem?_set_ne hj]
      simp only [hx.out, hy.out, hz.out, Instr.mapUpdate, Sem.run_bind, run_und (t := t), Result.andThen_ok, h2, h3, h4, hi, hkey, hstay, run_setObj_map hb, hmod]
      simp

/-- delete(m, i) -/
theorem sw_delete {t kt et ty' : TypeId} {x y : Operand} {k k' : IntKind} {b : Nat} {f : Int → Option Value} {i : Int} {pos : String} {after : Array Edge} [hx : Ev n e x (.map (some b))] [hy : Ev n e y (.int k i)] [hu : Und P t (.map kt et)] [hk : Und P kt (.int k')]
    [ht : Take Rs b (MapI k b f) F] (q : SW P ops Q n w0 rest e ((b, MapI k b (mdel f i)) :: F)) :
    SW P ops Q n w0 ({ dst := none, op := .call { callee := .builtin .delete, args := [x, y].toArray, argTypes := [t, ty'].toArray }, type := ty, pos := pos, after := after, guard := none } :: rest) e Rs := by
  intro w hw
  obtain ⟨L, clock, hg, hl, hb, hset⟩ := get_map hw ht
  have h2 : (getObj b).run P w = .ok (.map (entries k L) clock) w := by simp [getObj, Sem.run, hb]
  have h3 := run_checkKey_int (kt := kt) hk.out (entries k L).isEmpty 9999 (.int k i) w
  have h4 := run_findKey_int (k := k) (kt := kt) hk.out i L w
  suffices hrun : ∃ L' clock', Good L' clock' ∧ lk L' = mdel f i ∧ ∀ o : Oper, o.op = .call { callee := .builtin .delete, args := [x, y].toArray, argTypes := [t, ty'].toArray } → (execOp (act n e).eval o).run P w = .ok (.value (.tuple #[])) { w with heap := w.heap.setIfInBounds b (.map (entries k L') clock') } by
    obtain ⟨L', clock', hg', hl', hr⟩ := hrun
    exact wpM_value rfl (hr _ rfl) (q _ (hset L' clock' _ hg' hl'))
  have hpre : ∀ o : Oper, o.op = .call { callee := .builtin .delete, args := [x, y].toArray, argTypes := [t, ty'].toArray } → execOp (act n e).eval o = (do let v ← Builtin.delete_ [t, ty'].toArray o.type #[.map (some b), .int k i]; pure (.value v)) := by
    intro o h1
    unfold execOp; rw [h1]
    simp [resolve, invoke, builtin, hx.out, hy.out]
  cases hi : ix L i 0 with
  | none =>
    have hno := ix_none L i 0 hi
    refine ⟨L, clock, hg, ?_, ?_⟩
    · funext j
      unfold mdel
      rw [← hl]
      split
      · rename_i e; subst e; exact lk_none L _ hno
      · rfl
    · intro o h1
      rw [hpre o h1]
      simp [Builtin.delete_, run_und (t := t), h2, h3, h4, hi, run_setObj_map hb]
  | some p =>
    obtain ⟨m, u⟩ := p
    obtain ⟨r, rfl, bn, hr⟩ := ix_lt L i 0 m u hi
    refine ⟨L.eraseIdx r, clock, hg.erase r, ?_, ?_⟩
    · funext j; rw [lk_erase L r _ j hg.keys hr, hl]; rfl
    · intro o h1
      rw [hpre o h1]
      have her : (entries k L).eraseIdxIfInBounds r = entries k (L.eraseIdx r) := by
        unfold entries
        apply Array.ext'
        simp [eraseIdx_mapped]
      simp [Builtin.delete_, run_und (t := t), h2, h3, h4, hi, run_setObj_map hb, her]

/-- make(map[..]..) -/
theorem sw_makeMap {d : Nat} {t : TypeId} {k : IntKind} {pos : String} {after : Array Edge} (q : ∀ b, SW P ops Q n w0 rest ((d, .map (some b)) :: e) ((b, MapI k b mnil) :: Rs)) :
    SW P ops Q n w0 ({ dst := some d, op := .makeMap t none, type := ty, pos := pos, after := after, guard := none } :: rest) e Rs := by
  intro w hw
  have hr : ∀ o : Oper, o.op = .makeMap t none → (execOp (act n e).eval o).run P w = .ok (.value (.map (some w.heap.size))) { w with heap := w.heap.push (.map #[] 0) } := by
    intro o h1
    unfold execOp; rw [h1]
    simp [Instr.makeMap]
  refine wpM_value rfl (hr _ rfl) ?_
  rw [actM_put]
  refine q w.heap.size _ ?_
  exact (hw.new (.map #[] 0)).ent (Ent.head fun x hp => ⟨[], 0, ⟨⟨by simp, by simp, by simp⟩, rfl⟩, hp⟩)

end
end Go.Gsl

namespace Go.Gsl
set_option linter.unusedVariables false

section
variable {P : Program} {ops : Array Oper} {Q : Exit → Act → World → Prop} {md : Region.Mode} {C : World → Prop}

/-- In every world of the class the operation leaves 'v', and the world as it is. -/
def YieldsC (P : Program) (ops : Array Oper) (C : World → Prop) (o : Oper) (v : Value) (a : Act) : Prop :=
  (Region.wanted o (yielded ops a.tmps) = true ∧ ∀ w, C w → (execOp a.eval o).run P w = .ok (.value v) w) ∨
  (Region.wanted o (yielded ops a.tmps) = false ∧ v = undef)

theorem YieldsC.wpOp {i : Nat} {o : Oper} {v : Value} {a : Act} (hi : ops[i]? = some o) (hy : YieldsC P ops C o v a)
    {K : Act → World → Prop} {w : World} (hw : C w) (h : K (a.put o.dst v) w) : wpOpIn (fz none) 0 P ops Q i K a w := by
  unfold Go.wpOpIn
  simp only [hi]
  rcases hy with ⟨h1, hv⟩ | ⟨h1, rfl⟩
  · simp only [h1, if_true, Oper.wpIn, Oper.semAt_none, show (fz none).round = none from rfl, hv w hw, Oper.uponIn]; exact ⟨fun _ _ => trivial, h⟩
  · simp only [h1, Bool.false_eq_true, if_false]; exact ⟨fun _ _ => trivial, h⟩

theorem YieldsC.of_same {o : Oper} {v : Value} {a a' : Act} (hy : YieldsC P ops C o v a) (he : execOp a'.eval o = execOp a.eval o)
    (hw : Region.wanted o (yielded ops a'.tmps) = Region.wanted o (yielded ops a.tmps)) : YieldsC P ops C o v a' := by
  unfold YieldsC at *
  rw [he, hw]
  exact hy

theorem wpOp_putC {j : Nat} {oi oj : Oper} {v : Value} (hj : ops[j]? = some oj) (hap : oi.apart ops oj = true)
    (hsi : ∀ cs b, oi.op ≠ .select cs b) (hsj : ∀ cs b, oj.op ≠ .select cs b)
    (hQ : ∀ c a w, Q (.panic c) (a.put oi.dst v) w → Q (.panic c) a w) {K : Act → World → Prop} {a : Act} {w : World}
    (hy : YieldsC P ops C oi v a) (h : wpOpIn (fz none) 0 P ops Q j K (a.put oi.dst v) w) :
    wpOpIn (fz none) 0 P ops Q j (fun a' w' => YieldsC P ops C oi v a' ∧ K (a'.put oi.dst v) w') a w := by
  obtain ⟨h1, h2, h3⟩ := Oper.apart_spec hap
  have keep : ∀ (a : Act), YieldsC P ops C oi v a → ∀ u, YieldsC P ops C oi v (a.put oj.dst u) := fun a hy u =>
    hy.of_same (execOp_put oi hsi a oj.dst u h3) (wanted_put oi a oj.dst u h3)
  have keepD : ∀ d, YieldsC P ops C oi v { a with defers := d :: a.defers } := fun d => hy.of_same rfl rfl
  unfold wpOpIn at *
  simp only [hj] at *
  rw [wanted_put oj a oi.dst v h1] at h
  have hro : (fz none).round = none := rfl
  split
  · rename_i hw
    simp only [hw, if_true] at h
    unfold Oper.wpIn at *
    refine ⟨fun _ _ => trivial, ?_⟩
    have h := h.2
    rw [hro, Oper.semAt_none, execOp_put oj hsj a oi.dst v h1] at h
    rw [hro, Oper.semAt_none]
    generalize (execOp a.eval oj).run P w = r at *
    cases r with
    | ok x w' =>
      cases x <;> simp only [Oper.uponIn] at h ⊢
      case value u => exact ⟨keep a hy u, by rw [← Act.put_comm a v u h2]; exact h⟩
      case skip => exact ⟨keep a hy _, by rw [← Act.put_comm a v undef h2]; exact h⟩
      case defer d =>
        refine ⟨keep _ (keepD d) _, ?_⟩
        rw [← Act.put_comm _ v undef h2, ← Act.put_defers]
        exact h
      case enter f args =>
        refine ⟨h.1, CallsIn.mono h.2 fun e w'' he => ?_⟩
        cases e with
        | returned u => exact ⟨keep a hy u, by rw [← Act.put_comm a v u h2]; exact he⟩
        | panicked c => exact hQ _ _ _ he
        | outgrown => exact he
      case row row args => exact ⟨h.1, RowsIn.mono h.2 fun u w'' he => ⟨keep a hy u, by rw [← Act.put_comm a v u h2]; exact he⟩⟩
      case round l f tmps assign body =>
        refine ⟨h.1, RoundIn.mono h.2 fun e w'' he => ?_⟩
        cases e with
        | returned u => exact ⟨keep a hy u, by rw [← Act.put_comm a v u h2]; exact he⟩
        | panicked c => exact hQ _ _ _ he
        | outgrown => exact he
    | halt x w' =>
      cases x <;> simp only [Oper.uponIn] at h ⊢
      case panic u => exact hQ _ _ _ h
  · rename_i hw
    simp only [hw] at h
    exact ⟨fun _ _ => trivial, keep a hy _, by rw [← Act.put_comm a v undef h2]; exact h.2⟩

/-- Whatever order is picked from here on, each world on the way being of the class. -/
def wpAnyC (P : Program) (md : Region.Mode) (ops : Array Oper) (C : World → Prop) (Q : Exit → Act → World → Prop) : Nat → Array Bool → Act → World → Prop
  | 0, listed, a, w => C w ∧ Region.ready md ops listed = [] ∧ Q .normal a w
  | fuel + 1, listed, a, w =>
    C w ∧ (Region.ready md ops listed = [] → Q .normal a w) ∧
    ∀ i ∈ Region.ready md ops listed, wpOpIn (fz none) 0 P ops Q i (wpAnyC P md ops C Q fuel (listed.setIfInBounds i true)) a w

theorem wpAnyC.cls {fuel : Nat} {listed : Array Bool} {a : Act} {w : World} (h : wpAnyC P md ops C Q fuel listed a w) : C w := by
  cases fuel with
  | zero => exact h.1
  | succ f => exact h.1

theorem wpAny_of_C : ∀ (fuel : Nat) (listed : Array Bool) (a : Act) (w : World), wpAnyC P md ops C Q fuel listed a w → wpAnyIn (fz none) 0 P md ops Q fuel listed a w
  | 0, _, _, _, h => h.2
  | fuel + 1, _, _, _, h => ⟨h.2.1, fun i hi => wpOpIn_mono (fun a' w' => wpAny_of_C fuel _ a' w') (h.2.2 i hi)⟩

theorem wpAnyC_first {i : Nat} {oi : Oper} {v : Value} (hi : ops[i]? = some oi) (hsel : ∀ (j : Nat) (o : Oper) cs b, ops[j]? = some o → o.op ≠ .select cs b)
    (hQ : ∀ c a w, Q (.panic c) (a.put oi.dst v) w → Q (.panic c) a w) :
    ∀ (fuel : Nat) (listed : Array Bool) (a : Act) (w : World),
      (∀ j oj, ops[j]? = some oj → j ≠ i → listed.getD j true = false → (∀ e ∈ oj.after, Region.binds md e = true → e.on ≠ i) → oi.apart ops oj = true) →
      i ∈ Region.ready md ops listed → YieldsC P ops C oi v a →
      wpAnyC P md ops C Q fuel (listed.setIfInBounds i true) (a.put oi.dst v) w → wpAnyC P md ops C Q (fuel + 1) listed a w := by
  intro fuel
  induction fuel with
  | zero =>
    intro listed a w _ hr hy H
    refine ⟨H.cls, fun h => (by rw [h] at hr; cases hr), fun j hj => ?_⟩
    by_cases hji : j = i
    · subst hji; exact hy.wpOp hi H.cls H
    · have := ready_mono hj hji
      rw [H.2.1] at this
      cases this
  | succ fuel ih =>
    intro listed a w hfree hr hy H
    refine ⟨H.cls, fun h => (by rw [h] at hr; cases hr), fun j hj => ?_⟩
    by_cases hji : j = i
    · subst hji; exact hy.wpOp hi H.cls H
    · have h1 := H.2.2 j (ready_mono hj hji)
      obtain ⟨hjun, oj, hoj, hall⟩ := mem_ready.1 hj
      have hnot : ∀ e ∈ oj.after, Region.binds md e = true → e.on ≠ i := fun e he hb heq => by
        have h1 := hall e he hb
        have h0 := (mem_ready.1 hr).1
        rw [heq] at h1
        rcases Nat.lt_or_ge i listed.size with h' | h'
        · simp [h'] at h0 h1; rw [h0] at h1; cases h1
        · simp [Array.getElem?_eq_none h'] at h1
      have h2 := wpOp_putC hoj (hfree j oj hoj hji hjun hnot) (fun cs b => hsel i oi cs b hi) (fun cs b => hsel j oj cs b hoj) hQ hy h1
      have hfree' : ∀ k ok, ops[k]? = some ok → k ≠ i → (listed.setIfInBounds j true).getD k true = false →
          (∀ e ∈ ok.after, Region.binds md e = true → e.on ≠ i) → oi.apart ops ok = true := fun k ok hk hki hun hno => by
        refine hfree k ok hk hki ?_ hno
        by_cases hjk : j = k
        · subst hjk; exact hjun
        · rw [getD_set_ne true hjk] at hun; exact hun
      refine wpOpIn_mono (fun a' w' h3 => ih (listed.setIfInBounds j true) a' w' hfree' (ready_mono hr (Ne.symm hji)) h3.1 ?_) h2
      rw [Array.setIfInBounds_comm _ _ hji]
      exact h3.2

end

section
variable {P : Program} {ops : List Oper} {Q : Cont} {n : Nat} {w0 : World} {l rest : List Oper} {e : Env} {Rs Rs' F G : List Res} {fuel : Nat} {listed : Array Bool}

/-- These resources are among those. -/
class Sub (Rs G : List Res) : Prop where ent : Ent Rs G
instance Sub.nil (Rs : List Res) : Sub Rs [] := ⟨Ent.nil _⟩
instance Sub.cons (k : Nat) (r : HProp) (Rs F G : List Res) [h : Take Rs k r F] [h2 : Sub F G] : Sub Rs ((k, r) :: G) := ⟨h.ent.trans (Ent.cons _ h2.ent)⟩

/-- Whatever order is picked from here on: 'listed' has been done; 'G' is what no operation turns that was or will be taken out of turn. -/
def SG (P : Program) (ops : List Oper) (Q : Cont) (n : Nat) (w0 : World) (G : List Res) (fuel : Nat) (listed : Array Bool) (e : Env) (Rs : List Res) : Prop :=
  Q.r = none ∧ ∀ w, Sat w0 w Rs → wpAnyC P .any ops.toArray (fun w => Sat w0 w G) Q.q fuel listed (actM Q.m n e) w

/-- no word on panics: these are what the walks come to -/
def Calm (Q : Cont) : Prop := ∀ c a d v w, Q.q (.panic c) (a.put d v) w → Q.q (.panic c) a w

theorem sc_drawG {id : Nat} {m : Nat} (G : List Res) (hm : P.follows .mixedOrders = true) (hl : l.length = m) (h : SG P l Q n w0 G m (Array.replicate m false) e Rs) : SC P Q n w0 (.region id l.toArray true) e Rs := by
  subst hl
  intro w hw
  obtain ⟨hr, h⟩ := h
  rw [hr]
  refine wpIn_region_any hm ?_
  have := wpAny_of_C _ _ _ _ (h _ (hw.draw (w.drawn + 1)))
  simpa using this

theorem sc_drawC {id : Nat} {m : Nat} (G : List Res) (hc : Calm Q) (hm : P.follows .mixedOrders = true) (hl : l.length = m) (h : Calm Q → SG P l Q n w0 G m (Array.replicate m false) e Rs) : SC P Q n w0 (.region id l.toArray true) e Rs := sc_drawG G hm hl (h hc)

theorem sg_take {d : Nat} {op : Op} {ty : TypeId} {pos : String} {after : Array Edge} {v : Value} (i : Nat) (hc : Calm Q) (hi : ops[i]? = some { dst := some d, op := op, type := ty, pos := pos, after := after, guard := none })
    (hs : Region.noSelect ops.toArray = true) (hf : Region.free .any ops.toArray listed i = true) (hr : (Region.ready .any ops.toArray listed).contains i = true) [h : RunOp P n w0 e G op ty v]
    (k : SG P ops Q n w0 G fuel (listed.setIfInBounds i true) ((d, v) :: e) Rs) : SG P ops Q n w0 G (fuel + 1) listed e Rs := by
  refine ⟨k.1, fun w hw => ?_⟩
  have hi' : ops.toArray[i]? = some { dst := some d, op := op, type := ty, pos := pos, after := after, guard := none } := by simpa using hi
  refine wpAnyC_first hi' (Region.noSelect_spec hs) (fun c a w => hc c a _ v w) fuel listed _ w (Region.free_spec hi' hf) (by simpa using hr) (.inl ⟨by simp [Region.wanted], fun w hw => h.run _ rfl rfl w hw⟩) ?_
  rw [actM_put]; exact k.2 w hw

theorem sg_take_as {d : Nat} {op : Op} {ty : TypeId} {pos : String} {after : Array Edge} {v v' : Value} (i : Nat) (hc : Calm Q) (hi : ops[i]? = some { dst := some d, op := op, type := ty, pos := pos, after := after, guard := none })
    (hs : Region.noSelect ops.toArray = true) (hf : Region.free .any ops.toArray listed i = true) (hr : (Region.ready .any ops.toArray listed).contains i = true) [h : RunOp P n w0 e G op ty v] (hv : v = v')
    (k : SG P ops Q n w0 G fuel (listed.setIfInBounds i true) ((d, v') :: e) Rs) : SG P ops Q n w0 G (fuel + 1) listed e Rs := by
  subst hv; exact sg_take i hc hi hs hf hr k

theorem sg_skip {d : Nat} {op : Op} {ty : TypeId} {pos : String} {after : Array Edge} {j t : Nat} {b c : Bool} (i : Nat) (hc : Calm Q) (hi : ops[i]? = some { dst := some d, op := op, type := ty, pos := pos, after := after, guard := some (j, b) })
    (hs : Region.noSelect ops.toArray = true) (hf : Region.free .any ops.toArray listed i = true) (hr : (Region.ready .any ops.toArray listed).contains i = true) [hd : DstAt ops j t] [hl : Lk e t (.bool c)] [hn : Lt t n] [hb : BNe c b]
    (k : SG P ops Q n w0 G fuel (listed.setIfInBounds i true) ((d, undef) :: e) Rs) : SG P ops Q n w0 G (fuel + 1) listed e Rs := by
  refine ⟨k.1, fun w hw => ?_⟩
  have hi' : ops.toArray[i]? = some { dst := some d, op := op, type := ty, pos := pos, after := after, guard := some (j, b) } := by simpa using hi
  refine wpAnyC_first (v := undef) hi' (Region.noSelect_spec hs) (fun c a w => hc c a _ undef w) fuel listed _ w (Region.free_spec hi' hf) (by simpa using hr) (.inr ⟨?_, rfl⟩) ?_
  · simp only [Region.wanted, actM_tmps, yielded_of (n := n) (e := e) (ops := ops) (j := j) (t := t) (b := c)]
    simpa using hb.out
  · rw [actM_put]; exact k.2 w hw

theorem sg_take_g {d : Nat} {op : Op} {ty : TypeId} {pos : String} {after : Array Edge} {j t : Nat} {b : Bool} {v : Value} (i : Nat) (hc : Calm Q) (hi : ops[i]? = some { dst := some d, op := op, type := ty, pos := pos, after := after, guard := some (j, b) })
    (hs : Region.noSelect ops.toArray = true) (hf : Region.free .any ops.toArray listed i = true) (hr : (Region.ready .any ops.toArray listed).contains i = true) [hd : DstAt ops j t] [hl : Lk e t (.bool b)] [hn : Lt t n] [h : RunOp P n w0 e G op ty v]
    (k : SG P ops Q n w0 G fuel (listed.setIfInBounds i true) ((d, v) :: e) Rs) : SG P ops Q n w0 G (fuel + 1) listed e Rs := by
  refine ⟨k.1, fun w hw => ?_⟩
  have hi' : ops.toArray[i]? = some { dst := some d, op := op, type := ty, pos := pos, after := after, guard := some (j, b) } := by simpa using hi
  refine wpAnyC_first hi' (Region.noSelect_spec hs) (fun c a w => hc c a _ v w) fuel listed _ w (Region.free_spec hi' hf) (by simpa using hr) (.inl ⟨?_, fun w hw => h.run _ rfl rfl w hw⟩) ?_
  · simp only [Region.wanted, actM_tmps, yielded_of (n := n) (e := e) (ops := ops) (j := j) (t := t) (b := b)]
    simp
  · rw [actM_put]; exact k.2 w hw

theorem sg_take_g_as {d : Nat} {op : Op} {ty : TypeId} {pos : String} {after : Array Edge} {j t : Nat} {b : Bool} {v v' : Value} (i : Nat) (hc : Calm Q) (hi : ops[i]? = some { dst := some d, op := op, type := ty, pos := pos, after := after, guard := some (j, b) })
    (hs : Region.noSelect ops.toArray = true) (hf : Region.free .any ops.toArray listed i = true) (hr : (Region.ready .any ops.toArray listed).contains i = true) [hd : DstAt ops j t] [hl : Lk e t (.bool b)] [hn : Lt t n] [h : RunOp P n w0 e G op ty v] (hv : v = v')
    (k : SG P ops Q n w0 G fuel (listed.setIfInBounds i true) ((d, v') :: e) Rs) : SG P ops Q n w0 G (fuel + 1) listed e Rs := by
  subst hv; exact sg_take_g (j := j) (t := t) (b := b) i hc hi hs hf hr k

/-- A value that is not decided yet, both ways. -/
theorem sg_split {c : Bool} {p : Prop} (t : Nat) [hl : Lk e t (.bool c)] [hp : BP c p] (k1 : p → SG P ops Q n w0 G fuel listed ((t, .bool true) :: e) Rs) (k2 : ¬ p → SG P ops Q n w0 G fuel listed ((t, .bool false) :: e) Rs) : SG P ops Q n w0 G fuel listed e Rs := by
  cases c with
  | true => refine ⟨(k1 (hp.out.1 rfl)).1, fun w hw => ?_⟩; rw [actM_says (e := e) (l := [(t, .bool true)]) ⟨hl.out, trivial⟩]; exact (k1 (hp.out.1 rfl)).2 w hw
  | false => refine ⟨(k2 (fun h => by have := hp.out.2 h; cases this)).1, fun w hw => ?_⟩; rw [actM_says (e := e) (l := [(t, .bool false)]) ⟨hl.out, trivial⟩]; exact (k2 (fun h => by have := hp.out.2 h; cases this)).2 w hw

/-- the region's rest -/
def Cont.draws (P : Program) (ops : List Oper) (w0 : World) (G : List Res) (fuel : Nat) (listed : Array Bool) (Q : Cont) : Cont :=
  ⟨Q.r, Q.m, Exit.then (fun a w => wpAnyC P .any ops.toArray (fun w => Sat w0 w G) Q.q fuel listed a w) Q.q⟩

/-- Only 'i' may come up: it is carried out as in any list. -/
theorem sg_one {o : Oper} (i : Nat) (hi : ops[i]? = some o) (hr : Region.ready .any ops.toArray listed = [i]) (hq : Q.r = none) [hG : Sub Rs G]
    (k : SW P ops (Q.draws P ops w0 G fuel (listed.setIfInBounds i true)) n w0 [o] e Rs) : SG P ops Q n w0 G (fuel + 1) listed e Rs := by
  refine ⟨hq, fun w hw => ⟨hw.ent hG.ent, fun h => (by rw [h] at hr; cases hr), fun j hj => ?_⟩⟩
  rw [hr, List.mem_singleton] at hj
  subst hj
  have hi' : ops.toArray[j]? = some o := by simpa using hi
  have := k w hw
  unfold wpOpIn
  simp only [hi']
  have hq' : (Q.draws P ops w0 G fuel (listed.setIfInBounds j true)).r = none := hq
  rw [hq', show (Q.draws P ops w0 G fuel (listed.setIfInBounds j true)).m = Q.m from rfl] at this
  unfold wpListIn at this
  split
  · rename_i hw'
    rw [if_pos hw'] at this
    obtain ⟨h1, h⟩ := this
    refine ⟨h1, ?_⟩
    unfold Oper.uponIn at h ⊢
    exact h
  · rename_i hw'
    rw [if_neg hw'] at this
    exact this

theorem sg_back (h : SG P ops Q n w0 G fuel listed e Rs) : SQ (Q.draws P ops w0 G fuel listed) n w0 .normal e Rs := fun w hw => h.2 w hw

theorem sg_done (hr : Region.ready .any ops.toArray listed = []) (hq : Q.r = none) [hG : Sub Rs G] (h : SQ Q n w0 .normal e Rs) : SG P ops Q n w0 G 0 listed e Rs := ⟨hq, fun w hw => ⟨hw.ent hG.ent, hr, h w hw⟩⟩

theorem calm_post {fn : Func} {R : Value → List Res → Prop} : Calm (Post P fn w0 R) := by
  intro c a d v w h
  exact absurd rfl (h.1 c)
theorem Calm.then {y : Code} (h : Calm Q) : Calm (Q.next P y) := fun c a d v w x => h c a d v w x
theorem Calm.block {id : Nat} (h : Calm Q) : Calm (Q.block id) := fun c a d v w x => h c a d v w x
theorem Calm.round {α : Type} {inv : α → Env} {R : α → List Res} {m : α → Nat} {x : α} (h : Calm Q) : Calm (Q.round n w0 inv R m x) := fun c a d v w x => h c a d v w x
end
end Go.Gsl

namespace Go.Gsl
set_option linter.unusedVariables false

section
variable {P : Program} {ops : List Oper} {Q : Cont} {n : Nat} {w0 : World} {l rest : List Oper} {e : Env} {Rs Rs' F : List Res} {ty : TypeId}

/-- What has come so far. -/
structure Came (L D : List Ent3) : Prop where
  sub : ∀ x ∈ D, x ∈ L
  nodup : (D.map (·.born)).Nodup

/-- Block r goes through the map of block b, that holds 'f' (N entries); 'D' has come. -/
def ItI (k : IntKind) (b r : Nat) (f : Int → Option Value) (N : Nat) (D : List (Int × Value)) : HProp := fun h =>
  ∃ L clock C, (Good L clock ∧ lk L = f ∧ L.length = N ∧ Came L C ∧ C.map (fun x => (x.key, x.val)) = D) ∧
    sepL [(b, pts b (.map (entries k L) clock)), (r, pts r (.mapIter (some b) clock (C.map (·.born)).toArray clock))] h

theorem lk_mem : ∀ (L : List Ent3) (x : Ent3), (L.map (·.key)).Nodup → x ∈ L → lk L x.key = some x.val
  | y :: L, x, hn, hx => by
    simp only [List.map_cons, List.nodup_cons] at hn
    simp only [lk]
    rcases List.mem_cons.1 hx with rfl | hx
    · simp
    · have : y.key ≠ x.key := fun e => hn.1 (by rw [e]; exact List.mem_map_of_mem hx)
      rw [if_neg this]
      exact lk_mem L x hn.2 hx

theorem lk_some : ∀ (L : List Ent3) (i : Int) (v : Value), lk L i = some v → ∃ x ∈ L, x.key = i ∧ x.val = v
  | y :: L, i, v, h => by
    simp only [lk] at h
    split at h
    · rename_i hk
      exact ⟨y, by simp, hk, by simpa using h⟩
    · obtain ⟨x, hx, h1⟩ := lk_some L i v h
      exact ⟨x, by simp [hx], h1⟩

theorem born_inj {L : List Ent3} {clock : Nat} (h : Good L clock) {x y : Ent3} (hx : x ∈ L) (hy : y ∈ L) (e : x.born = y.born) : x = y := by
  have := h.borns
  clear h
  induction L with
  | nil => cases hx
  | cons z L ih =>
    simp only [List.map_cons, List.nodup_cons] at this
    rcases List.mem_cons.1 hx with h1 | h1 <;> rcases List.mem_cons.1 hy with h2 | h2
    · rw [h1, h2]
    · subst h1; exact (this.1 (by rw [e]; exact List.mem_map_of_mem h2)).elim
    · subst h2; exact (this.1 (by rw [← e]; exact List.mem_map_of_mem h1)).elim
    · exact ih h1 h2 this.2

theorem nodup_le {α : Type} [DecidableEq α] : ∀ (A B : List α), A.Nodup → (∀ x ∈ A, x ∈ B) → A.length ≤ B.length
  | [], B, _, _ => by simp
  | x :: A, B, hn, h => by
    have hx := h x (by simp)
    simp only [List.nodup_cons] at hn
    have := nodup_le A (B.erase x) hn.2 fun y hy => (List.mem_erase_of_ne (fun e => hn.1 (by rw [← e]; exact hy))).2 (h y (by simp [hy]))
    rw [List.length_erase_of_mem hx] at this
    have h2 : 0 < B.length := List.length_pos_of_mem hx
    simp only [List.length_cons]
    omega

theorem came_length {L D : List Ent3} (h : Came L D) : D.length ≤ L.length := by
  have hs : ∀ b ∈ D.map (·.born), b ∈ L.map (·.born) := by
    intro b hb
    obtain ⟨x, hx, rfl⟩ := List.mem_map.1 hb
    exact List.mem_map_of_mem (h.sub x hx)
  have := nodup_le _ _ h.nodup hs
  simpa using this

theorem get_it {k : IntKind} {b r : Nat} {f : Int → Option Value} {N : Nat} {D : List (Int × Value)} {w : World} (hw : Sat w0 w Rs) (t : Take Rs r (ItI k b r f N D) F) :
    ∃ L clock C, (Good L clock ∧ lk L = f ∧ L.length = N ∧ Came L C ∧ C.map (fun x => (x.key, x.val)) = D) ∧
      Sat w0 w ((b, pts b (.map (entries k L) clock)) :: (r, pts r (.mapIter (some b) clock (C.map (·.born)).toArray clock)) :: F) := by
  obtain ⟨⟨L, clock, C⟩, hp, h1⟩ := (hw.ent t.ent).opn (α := List Ent3 × Nat × List Ent3) (φ := fun a => Good a.1 a.2.1 ∧ lk a.1 = f ∧ a.1.length = N ∧ Came a.1 a.2.2 ∧ a.2.2.map (fun x => (x.key, x.val)) = D)
    (p := fun a => hall [(b, pts b (.map (entries k a.1) a.2.1)), (r, pts r (.mapIter (some b) a.2.1 (a.2.2.map (·.born)).toArray a.2.1))]) (by rintro x ⟨L, clock, C, h, hq⟩; exact ⟨(L, clock, C), h, hq⟩)
  exact ⟨L, clock, C, hp, h1.ent (Ent.hall_open _ _ _)⟩

theorem put_it {k : IntKind} {b r : Nat} {f : Int → Option Value} {N : Nat} {D : List (Int × Value)} {w : World} {L C : List Ent3} {clock : Nat} (hp : Good L clock ∧ lk L = f ∧ L.length = N ∧ Came L C ∧ C.map (fun x => (x.key, x.val)) = D)
    (hw : Sat w0 w ((b, pts b (.map (entries k L) clock)) :: (r, pts r (.mapIter (some b) clock (C.map (·.born)).toArray clock)) :: F)) : Sat w0 w ((r, ItI k b r f N D) :: F) := by
  exact (hw.ent (Ent.hall_close r [_, _] F)).ent (Ent.head fun x hq => ⟨L, clock, C, hp, hq⟩)

/-- for .. := range m: the iterator -/
theorem sw_range {d : Nat} {t kt et : TypeId} {x : Operand} {k : IntKind} {b : Nat} {f : Int → Option Value} {pos : String} {after : Array Edge} [hx : Ev n e x (.map (some b))] [hu : Und P t (.map kt et)] [ht : Take Rs b (MapI k b f) F]
    (q : ∀ r N, SW P ops Q n w0 rest ((d, .pointer (some ⟨r, 0, none⟩)) :: e) ((r, ItI k b r f N []) :: F)) :
    SW P ops Q n w0 ({ dst := some d, op := .range t x, type := ty, pos := pos, after := after, guard := none } :: rest) e Rs := by
  intro w hw
  obtain ⟨⟨L, clock⟩, ⟨hg, hl⟩, h1⟩ := (hw.ent ht.ent).opn (α := List Ent3 × Nat) (φ := fun a => Good a.1 a.2 ∧ lk a.1 = f) (p := fun a => pts b (.map (entries k a.1) a.2)) (by rintro x ⟨L, clock, h, hp⟩; exact ⟨(L, clock), h, hp⟩)
  have hb := h1.get (Take.here _ _ _)
  have h2 : (getObj b).run P w = .ok (.map (entries k L) clock) w := by
    have : w.heap[b]? = some (.map (entries k L) clock) := hb
    simp [getObj, Sem.run, this]
  have hr : ∀ o : Oper, o.op = .range t x → (execOp (act n e).eval o).run P w = .ok (.value (.pointer (some ⟨w.heap.size, 0, none⟩))) { w with heap := w.heap.push (.mapIter (some b) clock #[] clock) } := by
    intro o ho
    unfold execOp; rw [ho]
    simp [hx.out, Instr.range, run_und (t := t), h2]
  refine wpM_value rfl (hr _ rfl) ?_
  rw [actM_put]
  refine q w.heap.size L.length _ ?_
  have h3 := h1.new (.mapIter (some b) clock #[] clock)
  refine put_it (L := L) (C := []) (clock := clock) ⟨hg, hl, rfl, ⟨by simp, by simp⟩, rfl⟩ ?_
  exact h3.ent (Ent.swap _ _ _)

theorem not_mem_born {L C : List Ent3} {clock : Nat} (hg : Good L clock) (hc : Came L C) {x : Ent3} (hx : x ∈ L) : (C.map (·.born)).contains x.born = true ↔ x ∈ C := by
  rw [List.contains_iff_mem]
  constructor
  · intro h
    obtain ⟨y, hy, e⟩ := List.mem_map.1 h
    rw [← born_inj hg (hc.sub y hy) hx e]; exact hy
  · intro h; exact List.mem_map_of_mem h

/-- the iterator's step -/
theorem sw_next {d : Nat} {x : Operand} {k : IntKind} {b r : Nat} {f : Int → Option Value} {N : Nat} {D : List (Int × Value)} {pos : String} {after : Array Edge} [hx : Ev n e x (.pointer (some ⟨r, 0, none⟩))] [ht : Take Rs r (ItI k b r f N D) F]
    (q1 : (∀ i v, f i = some v → (i, v) ∈ D) → SW P ops Q n w0 rest ((d, .tuple [.bool false].toArray) :: e) ((r, ItI k b r f N D) :: F))
    (q2 : ∀ i v, f i = some v → (∀ u, (i, u) ∉ D) → D.length < N → SW P ops Q n w0 rest ((d, .tuple [.bool true, .int k i, v].toArray) :: e) ((r, ItI k b r f N (D ++ [(i, v)])) :: F)) :
    SW P ops Q n w0 ({ dst := some d, op := .next x false, type := ty, pos := pos, after := after, guard := none } :: rest) e Rs := by
  intro w hw
  obtain ⟨L, clock, C, ⟨hg, hl, hN, hc, hD⟩, hs⟩ := get_it hw ht
  have hb : w.heap[b]? = some (.map (entries k L) clock) := hs.get (Take.here _ _ _)
  have hr : w.heap[r]? = some (.mapIter (some b) clock (C.map (·.born)).toArray clock) := hs.get (Take.there _ _ _ _ _)
  have h1 : (getObj r).run P w = .ok (.mapIter (some b) clock (C.map (·.born)).toArray clock) w := by simp [getObj, Sem.run, hr]
  have h2 : (getObj b).run P w = .ok (.map (entries k L) clock) w := by simp [getObj, Sem.run, hb]
  -- what is left
  let left := L.filter fun x => !(C.map (·.born)).contains x.born
  have hleft : ∀ x, x ∈ left ↔ x ∈ L ∧ x ∉ C := by
    intro x
    rw [List.mem_filter]
    constructor
    · rintro ⟨h, h'⟩
      refine ⟨h, fun hm => ?_⟩
      rw [(not_mem_born hg hc h).2 hm] at h'; cases h'
    · rintro ⟨h, h'⟩
      refine ⟨h, ?_⟩
      cases hh : (C.map (·.born)).contains x.born with
      | false => rfl
      | true => exact (h' ((not_mem_born hg hc h).1 hh)).elim
  have hfil : (entries k L).filter (fun e => !(C.map (·.born)).toArray.contains e.born) = (left.map (Ent3.mk' k)).toArray := by
    unfold entries
    simp only [List.filter_toArray, List.filter_map]
    congr 2
    apply List.filter_congr
    intro y _
    simp [Ent3.mk', Function.comp]
  have hold : (left.map (Ent3.mk' k)).toArray.filter (fun e => decide (e.born < clock)) = (left.map (Ent3.mk' k)).toArray := by
    simp only [List.filter_toArray]
    congr 1
    apply List.filter_eq_self.2
    intro y hy
    obtain ⟨z, hz, rfl⟩ := List.mem_map.1 hy
    have := hg.lt z ((hleft z).1 hz).1
    exact decide_eq_true this
  have hnew : (left.map (Ent3.mk' k)).toArray.filter (fun e => decide (e.born ≥ clock)) = #[] := by
    simp only [List.filter_toArray]
    congr 1
    apply List.filter_eq_nil_iff.2
    intro y hy
    obtain ⟨z, hz, rfl⟩ := List.mem_map.1 hy
    have := hg.lt z ((hleft z).1 hz).1
    simp [Ent3.mk']; omega
  have hgate : (!(C.map (·.born)).toArray.isEmpty && !(entries k L).isEmpty && (entries k L).all (fun e => decide (e.born ≥ clock))) = false := by
    cases hL : L with
    | nil => simp [entries]
    | cons y ys =>
      have := hg.lt y (by simp [hL])
      have h3 : decide (y.born ≥ clock) = false := by simp; omega
      simp [entries, Ent3.mk', h3]
  have hrun : ∀ o : Oper, o.op = .next x false → (execOp (act n e).eval o).run P w =
      ((Sem.run P (do
        let candidates := (if (left.map (Ent3.mk' k)).toArray.isEmpty then #[none] else #[]) ++ ((left.map (Ent3.mk' k)).toArray ++ #[]).map some
        match candidates[← choose (.mapNext candidates.size)]? with
        | some (some e) =>
          setObj r (.mapIter (some b) clock ((C.map (·.born)).toArray.push e.born) clock)
          pure (.tuple #[.bool true, e.key, e.val])
        | some none => pure (.tuple #[.bool false])
        | none => stuck "Next: no such candidate") w).andThen fun v w' => .ok (.value v) w') := by
    intro o ho
    unfold execOp; rw [ho]
    simp only [hx.out, Instr.next, Sem.run_bind, h1, h2, Result.andThen_ok, hgate, Bool.false_eq_true, if_false, hfil, hold, hnew, Sem.run_pure]
    rfl
  unfold wpListIn
  rw [if_pos (by simp [Region.wanted])]
  unfold Oper.wpIn
  refine ⟨fun _ _ => trivial, ?_⟩
  rw [Oper.semAt_eq _ _ _ (by simp), actM_eval, hrun _ rfl]
  cases hlf : left with
  | nil =>
    have hno : ∀ x ∈ L, x ∈ C := by
      intro x hx
      by_cases h : x ∈ C
      · exact h
      · have := (hleft x).2 ⟨hx, h⟩
        rw [hlf] at this; cases this
    simp only [List.map_nil, List.isEmpty_toArray, List.isEmpty_nil, if_true, Array.append_empty, List.map_toArray, Array.append_empty, List.size_toArray, List.length_cons, List.length_nil, Nat.reduceAdd, Sem.run_bind, run_choose, Question.forced, Result.andThen]
    simp [Oper.uponIn]
    rw [actM_put]
    refine q1 ?_ _ (put_it (L := L) (C := C) ⟨hg, hl, hN, hc, hD⟩ hs)
    intro i v hi
    rw [← hl] at hi
    obtain ⟨y, hy, rfl, rfl⟩ := lk_some L i v hi
    rw [← hD]
    exact List.mem_map_of_mem (f := fun x : Ent3 => (x.key, x.val)) (hno y hy)
  | cons y ys =>
    -- whichever is picked
    have hpick : ∀ c w1, c < (y :: ys).length → Sat w0 w1 ((b, pts b (.map (entries k L) clock)) :: (r, pts r (.mapIter (some b) clock (C.map (·.born)).toArray clock)) :: F) →
        ∀ z, (y :: ys)[c]? = some z → wpListIn (fz Q.r) 0 P ops.toArray Q.q rest ((actM Q.m n e).put (some d) (.tuple #[.bool true, .int k z.key, z.val])) { w1 with heap := w1.heap.setIfInBounds r (.mapIter (some b) clock ((C.map (·.born)).toArray.push z.born) clock) } := by
      intro c w1 hcl hs1 z hz
      have hzl : z ∈ left := by rw [hlf]; exact List.mem_of_getElem? hz
      obtain ⟨hzL, hzC⟩ := (hleft z).1 hzl
      have hcame : Came L (C ++ [z]) := by
        refine ⟨fun u hu => ?_, ?_⟩
        · rcases List.mem_append.1 hu with hu | hu
          · exact hc.sub u hu
          · simp only [List.mem_singleton] at hu; rw [hu]; exact hzL
        · simp only [List.map_append, List.map_cons, List.map_nil]
          refine List.nodup_append.2 ⟨hc.nodup, by simp, ?_⟩
          rintro a ha b hb rfl
          simp only [List.mem_singleton] at hb
          obtain ⟨u, hu, e1⟩ := List.mem_map.1 ha
          have : u = z := born_inj hg (hc.sub u hu) hzL (by rw [e1, hb])
          subst this; exact hzC hu
      rw [actM_put]
      refine q2 z.key z.val ?_ ?_ ?_ _ ?_
      · rw [← hl]; exact lk_mem L z hg.keys hzL
      · intro u hu
        rw [← hD] at hu
        obtain ⟨t, htC, e1⟩ := List.mem_map.1 hu
        simp only [Prod.mk.injEq] at e1
        have h5 := lk_mem L t hg.keys (hc.sub t htC)
        have h6 := lk_mem L z hg.keys hzL
        -- one key, one entry
        have : t = z := by
          have hk := hg.keys
          have ht' := hc.sub t htC
          have hb1 : ∀ (M : List Ent3), (M.map (·.key)).Nodup → t ∈ M → z ∈ M → t.born = z.born := by
            intro M
            induction M with
            | nil => intro _ h; cases h
            | cons c M ihM =>
              intro hn h3 h4
              simp only [List.map_cons, List.nodup_cons] at hn
              rcases List.mem_cons.1 h3 with g3 | g3 <;> rcases List.mem_cons.1 h4 with g4 | g4
              · rw [g3, g4]
              · exact (hn.1 (by rw [← g3, e1.1]; exact List.mem_map_of_mem (f := (·.key)) g4)).elim
              · exact (hn.1 (by rw [← g4, ← e1.1]; exact List.mem_map_of_mem (f := (·.key)) g3)).elim
              · exact ihM hn.2 g3 g4
          exact born_inj hg ht' hzL (hb1 _ hk ht' hzL)
        subst this; exact hzC htC
      · have := came_length hcame
        rw [List.length_append] at this
        have h7 : C.length = D.length := by rw [← hD]; simp
        simp at this
        omega
      · refine put_it (L := L) (C := C ++ [z]) (clock := clock) ⟨hg, hl, hN, hcame, by simp [hD]⟩ ?_
        have h8 := hs1.set (b := r) (o := .mapIter (some b) clock (C.map (fun x : Ent3 => x.born)).toArray clock) (Take.there _ _ _ _ _) (.mapIter (some b) clock ((C.map (·.born)).toArray.push z.born) clock)
        have h9 : (C.map (·.born)).toArray.push z.born = ((C ++ [z]).map (·.born)).toArray := by simp
        rw [h9] at h8 ⊢
        exact h8.ent (Ent.swap _ _ _)
    have hcand : ((if (((y :: ys).map (Ent3.mk' k)).toArray.isEmpty = true) then #[none] else #[]) ++ (((y :: ys).map (Ent3.mk' k)).toArray ++ #[]).map some : Array (Option MapEntry)) = (((y :: ys).map (Ent3.mk' k)).map some).toArray := by
      simp
    have hset : ∀ (w1 : World) s, w1.heap[r]? = some (.mapIter (some b) clock (C.map (·.born)).toArray clock) → (setObj r s).run P w1 = .ok () { w1 with heap := w1.heap.setIfInBounds r s } := by
      intro w1 s h; simp [setObj, Sem.run, h]
    simp only [hcand]
    have hsz : ((((y :: ys).map (Ent3.mk' k)).map some).toArray).size = (y :: ys).length := by simp
    rw [hsz]
    have hgo : ∀ c w1, c < (y :: ys).length → Sat w0 w1 ((b, pts b (.map (entries k L) clock)) :: (r, pts r (.mapIter (some b) clock (C.map (·.born)).toArray clock)) :: F) →
        Oper.uponIn (fz Q.r) 0 P { dst := some d, op := .next x false, type := ty, pos := pos, after := after, guard := none } (actM Q.m n e) (wpListIn (fz Q.r) 0 P ops.toArray Q.q rest) Q.q
          ((Sem.run P (match ((((y :: ys).map (Ent3.mk' k)).map some).toArray)[c]? with
            | some (some e) => do
              setObj r (.mapIter (some b) clock ((C.map (·.born)).toArray.push e.born) clock)
              pure (.tuple #[.bool true, e.key, e.val])
            | some none => pure (.tuple #[.bool false])
            | none => stuck "Next: no such candidate") w1).andThen fun v w' => .ok (.value v) w') := by
      intro c w1 hcl hs1
      obtain ⟨z, hz⟩ : ∃ z, (y :: ys)[c]? = some z := ⟨_, List.getElem?_eq_getElem hcl⟩
      have hr1 : w1.heap[r]? = some (.mapIter (some b) clock (C.map (·.born)).toArray clock) := hs1.get (Take.there _ _ _ _ _)
      have hz2 : ((((y :: ys).map (Ent3.mk' k)).map some).toArray)[c]? = some (some (Ent3.mk' k z)) := by
        simp only [List.getElem?_toArray, List.getElem?_map, hz, Option.map_some]
      rw [hz2]
      simp only [Sem.run_bind, hset w1 _ hr1, Result.andThen_ok, Sem.run_pure]
      exact hpick c w1 hcl hs1 z hz
    simp only [Sem.run_bind, run_choose]
    split
    · rename_i hfo
      simp only [Result.andThen_ok]
      exact hgo 0 w (by simp) hs
    · rename_i hfo
      simp only [Result.andThen_ok]
      exact hgo _ _ (by simp only [Question.cut]; exact Nat.mod_lt _ (by simp)) (hs.draw _)

/-- the entry that came last -/
instance RunOp.entry (x : Operand) (k : IntKind) (b r : Nat) (f : Int → Option Value) (N : Nat) (D : List (Int × Value)) (i : Int) (v : Value) (F : List Res) [hx : Ev n e x (.pointer (some ⟨r, 0, none⟩))] [ht : Take Rs r (ItI k b r f N (D ++ [(i, v)])) F] :
    RunOp P n w0 e Rs (.entry x) ty (.tuple [.int k i, v].toArray) :=
  ⟨fun o ho _ w hw => by
    obtain ⟨L, clock, C, ⟨hg, hl, hN, hc, hD⟩, hs⟩ := get_it hw ht
    have hb : w.heap[b]? = some (.map (entries k L) clock) := hs.get (Take.here _ _ _)
    have hr : w.heap[r]? = some (.mapIter (some b) clock (C.map (·.born)).toArray clock) := hs.get (Take.there _ _ _ _ _)
    have h1 : (getObj r).run P w = .ok (.mapIter (some b) clock (C.map (·.born)).toArray clock) w := by simp [getObj, Sem.run, hr]
    have h2 : (getObj b).run P w = .ok (.map (entries k L) clock) w := by simp [getObj, Sem.run, hb]
    obtain ⟨C1, z, rfl⟩ : ∃ C1 z, C = C1 ++ [z] := by
      rcases List.eq_nil_or_concat C with h | ⟨C1, z, h⟩
      · subst h; simp at hD
      · exact ⟨C1, z, by simpa using h⟩
    have hz : z.key = i ∧ z.val = v := by
      simp only [List.map_append, List.map_cons, List.map_nil] at hD
      have := (List.append_inj' hD rfl).2
      simpa using this
    have hzL : z ∈ L := hc.sub z (by simp)
    have hfind : (entries k L).find? (fun e => e.born == z.born) = some (Ent3.mk' k z) := by
      unfold entries
      rw [List.find?_toArray, List.find?_map]
      have : L.find? ((fun e : MapEntry => e.born == z.born) ∘ Ent3.mk' k) = some z := by
        have hex : ∃ a, L.find? ((fun e : MapEntry => e.born == z.born) ∘ Ent3.mk' k) = some a := by
          cases hh : L.find? ((fun e : MapEntry => e.born == z.born) ∘ Ent3.mk' k) with
          | some a => exact ⟨a, rfl⟩
          | none =>
            have := List.find?_eq_none.1 hh z hzL
            simp [Ent3.mk'] at this
        obtain ⟨a, ha⟩ := hex
        have h3 := List.find?_some ha
        have h4 := List.mem_of_find?_eq_some ha
        simp only [Function.comp, Ent3.mk', beq_iff_eq] at h3
        rw [ha, born_inj hg h4 hzL h3]
      rw [this]; rfl
    unfold execOp; rw [ho]
    simp [hx.out, Instr.entry, h1, h2, hfind, Ent3.mk', hz.1, hz.2]⟩

/-- behind the loop: the map -/
theorem ItI.map {k : IntKind} {b r : Nat} {f : Int → Option Value} {N : Nat} {D : List (Int × Value)} {k2 : Nat} : Ent ((k2, ItI k b r f N D) :: F) ((b, MapI k b f) :: F) := by
  rintro h ⟨x, y, hd, rfl, ⟨L, clock, C, ⟨hg, hl, _⟩, hq⟩, hF⟩
  have h1 := (sepL_append [_, _] F _).2 ⟨x, y, hd, rfl, hq, hF⟩
  obtain ⟨a, c, hd2, hj2, hp, hr⟩ := h1
  exact ⟨a, c, hd2, hj2, ⟨L, clock, ⟨hg, hl⟩, hp⟩, Ent.drop _ _ _ hr⟩

end
end Go.Gsl

namespace Go.Gsl
set_option linter.unusedVariables false

section
variable {P : Program} {ops : List Oper} {Q : Cont} {n : Nat} {w0 : World} {l rest : List Oper} {e : Env} {Rs Rs' F : List Res} {ty : TypeId}

theorem Spec.mono {f : FuncId} {args : List Value} {ks : List Nat} {rs : List HProp} {Post Post' : List Res → Value → List Res → Prop} (h : Spec P f args ks rs Post) (hp : ∀ F v Rs', Post F v Rs' → Post' F v Rs') : Spec P f args ks rs Post' := by
  intro w0 F w hw
  refine (h w0 F w hw).mono ?_
  rintro x w' ⟨v, Rs', hx, hp', hs⟩
  exact ⟨v, Rs', hx, hp _ _ _ hp', hs⟩

/-! ### len, indexes -/
instance PureOp.sllen (x : Operand) (a : Option Addr) (m c : Nat) (t et : TypeId) [hx : Ev n e x (.slice a m c)] [hu : Und P t (.slice et)] : PureOp P n e (.call { callee := .builtin .len, args := [x].toArray, argTypes := [t].toArray }) ty (.int .i64 m) :=
  ⟨fun o h1 _ w => by unfold execOp; rw [h1]; simp [resolve, invoke, builtin, Builtin.len_, hx.out, run_und (t := t), goInt]⟩

theorem pure_index {t et : TypeId} {x y : Operand} {b off m c sz : Nat} {k : IntKind} {i : Int} [hx : Ev n e x (.slice (some ⟨b, off, none⟩) m c)] [hy : Ev n e y (.int k i)] [hu : Und P t (.slice et)] [hs : SizeOf P et sz] (h : 0 ≤ i ∧ i < m) :
    PureOp P n e (.indexAddr t x y) ty (.pointer (some ⟨b, off + i.toNat * sz, none⟩)) :=
  ⟨fun o h1 _ w => by
    unfold execOp; rw [h1]
    simp [hx.out, hy.out, Instr.indexAt, asIntOf, run_und (t := t), h, hs.out, Addr.add]⟩

theorem sw_index {d : Nat} {t et : TypeId} {x y : Operand} {b off m c sz : Nat} {k : IntKind} {i : Int} {pos : String} {after : Array Edge} [hx : Ev n e x (.slice (some ⟨b, off, none⟩) m c)] [hy : Ev n e y (.int k i)] [hu : Und P t (.slice et)] [hs : SizeOf P et sz] (h : 0 ≤ i ∧ i < m)
    (q : SW P ops Q n w0 rest ((d, .pointer (some ⟨b, off + i.toNat * sz, none⟩)) :: e) Rs) : SW P ops Q n w0 ({ dst := some d, op := .indexAddr t x y, type := ty, pos := pos, after := after, guard := none } :: rest) e Rs :=
  have h1 : PureOp P n e (.indexAddr t x y) ty (.pointer (some ⟨b, off + i.toNat * sz, none⟩)) := pure_index h
  sw_op (h := @RunOp.pure P n w0 e Rs _ _ _ h1) q

/-! ### whole structs -/
theorem run_loadCells {w : World} {b off : Nat} : ∀ (vs : List Value) (i : Nat) (acc : Array Value), (∀ j v, vs[j]? = some v → w.cell? ⟨b, off + (i + j), none⟩ = some v) →
    (loadCellsFrom ⟨b, off, none⟩ i vs.length acc).run P w = .ok (acc ++ vs.toArray) w
  | [], i, acc, _ => by simp [loadCellsFrom]
  | v :: vs, i, acc, h => by
    have h0 := h 0 v (by simp)
    have ha : (Addr.add ⟨b, off, none⟩ i) = ⟨b, off + (i + 0), none⟩ := by
      simp [Addr.add]
    simp only [List.length_cons, loadCellsFrom, Sem.run_bind, run_load, ha, h0, Result.andThen_ok]
    rw [run_loadCells vs (i + 1) (acc.push v) fun j u hj => by
      have := h (j + 1) u (by simpa using hj)
      rw [show off + (i + 1 + j) = off + (i + (j + 1)) by omega]; exact this]
    simp

theorem runop_load_agg {t : TypeId} {x : Operand} {b off : Nat} {vs : List Value} [h : Ev n e x (.pointer (some ⟨b, off, none⟩))] [ht : IsAggT P t] (sz : Nat) [hs : SizeOf P t sz] (hl : vs.length = sz)
    (hc : ∀ w, Sat w0 w Rs → ∀ j v, vs[j]? = some v → w.cell? ⟨b, off + j, none⟩ = some v) : RunOp P n w0 e Rs (.load t x) ty (.agg vs.toArray) :=
  ⟨fun o h1 _ w hw => by
    subst hl
    unfold execOp; rw [h1]
    have h2 := run_loadCells (P := P) (w := w) (b := b) (off := off) vs 0 #[] fun j v hj => by rw [Nat.zero_add]; exact hc w hw j v hj
    simp [h.out, Instr.loadAt, Instr.sureAddr, loadVar, ht.out, hs.out, loadCells, h2]⟩

theorem sw_load_agg {d : Nat} {t : TypeId} {x : Operand} {b off : Nat} {vs : List Value} {pos : String} {after : Array Edge} {sz : Nat} [h : Ev n e x (.pointer (some ⟨b, off, none⟩))] [ht : IsAggT P t] [hs : SizeOf P t sz] (hl : vs.length = sz)
    (hc : ∀ w, Sat w0 w Rs → ∀ j v, vs[j]? = some v → w.cell? ⟨b, off + j, none⟩ = some v)
    (q : SW P ops Q n w0 rest ((d, .agg vs.toArray) :: e) Rs) : SW P ops Q n w0 ({ dst := some d, op := .load t x, type := ty, pos := pos, after := after, guard := none } :: rest) e Rs :=
  sw_op (h := runop_load_agg sz hl hc) q

class LenL (l : List Value) (m : Nat) : Prop where out : l.length = m
instance LenL.nil : LenL [] 0 := ⟨rfl⟩
instance LenL.cons (v : Value) (l : List Value) (m : Nat) [h : LenL l m] : LenL (v :: l) (m + 1) := ⟨by simp [h.out]⟩

/-- a whole variable of the call's own -/
instance RunOp.load_agg (t : TypeId) (x : Operand) (b : Nat) (vs : List Value) (sz : Nat) (ty' : TypeId) (fr : Nat × Nat) (F : List Res) [h : Ev n e x (.pointer (some ⟨b, 0, none⟩))] [ha : IsAggT P t] [hs : SizeOf P t sz] [hl : LenL vs sz]
    [ht : Take Rs b (pts b (.cells vs.toArray ty' fr)) F] : RunOp P n w0 e Rs (.load t x) ty (.agg vs.toArray) :=
  runop_load_agg sz hl.out fun w hw j v hj => by
    rw [Nat.zero_add]
    exact cell_of (hw.get ht) (by simpa using hj)

class OneL (l : List Value) : Prop where out : ∀ v ∈ l, v.oneCell' = true
instance OneL.nil : OneL [] := ⟨by simp⟩
instance OneL.cons (v : Value) (l : List Value) [h : One v] [h2 : OneL l] : OneL (v :: l) := ⟨by
  intro u hu
  rcases List.mem_cons.1 hu with rfl | hu
  · exact h.out
  · exact h2.out u hu⟩

theorem run_storeCells {b off : Nat} {ty' : TypeId} : ∀ (vs : List Value) (i : Nat) (cs : List Value) (w : World), (∀ v ∈ vs, v.oneCell' = true) → w.heap[b]? = some (.cells cs.toArray ty' (0, 0)) → off + (i + vs.length) ≤ cs.length →
    (storeCells ⟨b, off, none⟩ vs i).run P w = .ok () { w with heap := w.heap.setIfInBounds b (.cells (cs.take (off + i) ++ vs ++ cs.drop (off + i + vs.length)).toArray ty' (0, 0)) }
  | [], i, cs, w, _, hb, _ => by
    obtain ⟨hlt, hg⟩ := Array.getElem?_eq_some_iff.1 hb
    simp only [storeCells, Sem.run_pure, List.append_nil, List.length_nil, Nat.add_zero, List.take_append_drop]
    congr 1
    have : w.heap.setIfInBounds b (.cells cs.toArray ty' (0, 0)) = w.heap := by
      apply Array.ext_getElem?
      intro j
      rw [Array.getElem?_setIfInBounds]
      by_cases hj : b = j
      · subst hj; simp [hlt, hg]
      · simp [hj]
    rw [this]
  | v :: vs, i, cs, w, hv, hb, hl => by
    have hlen : off + i < cs.length := by simp only [List.length_cons] at hl; omega
    have ha : (Addr.add ⟨b, off, none⟩ i) = ⟨b, off + i, none⟩ := by
      simp [Addr.add]
    have hc : w.cell? ⟨b, off + i, none⟩ = some cs[off + i] := cell_of hb (by simp [hlen])
    have hf : w.frozen? ⟨b, off + i, none⟩ = false := by simp [World.frozen?, hb]
    simp only [storeCells, Sem.run_bind, ha, run_store P w ⟨b, off + i, none⟩ v .plain (hv v (by simp)), hc, hf, Bool.false_eq_true, if_false, Result.andThen_ok, setCell_eq hb]
    have hs : cs.toArray.setIfInBounds (off + i) v = (cs.set (off + i) v).toArray := by simp
    rw [hs]
    obtain ⟨hlt, hg⟩ := Array.getElem?_eq_some_iff.1 hb
    rw [run_storeCells (ty' := ty') vs (i + 1) (cs.set (off + i) v) _ (fun u hu => hv u (by simp [hu])) (by simp [hlt]) (by simp only [List.length_cons, List.length_set] at hl ⊢; omega)]
    congr 1
    simp only [Array.setIfInBounds_setIfInBounds]
    have e1 : (cs.set (off + i) v).take (off + (i + 1)) = cs.take (off + i) ++ [v] := by
      rw [show off + (i + 1) = off + i + 1 by omega, List.take_succ_eq_append_getElem (by simpa using hlen), List.take_set_of_le (Nat.le_refl _)]
      simp
    have e2 : (cs.set (off + i) v).drop (off + (i + 1) + vs.length) = cs.drop (off + i + (vs.length + 1)) := by
      rw [show off + (i + 1) + vs.length = off + i + (vs.length + 1) by omega, List.drop_set_of_lt (by omega)]
    rw [e1, e2]
    simp

/-- a whole variable is written -/
theorem sw_store_agg {t : TypeId} {x y : Operand} {b sz : Nat} {old vs : List Value} {ty' : TypeId} {pos : String} {after : Array Edge} [h : Ev n e x (.pointer (some ⟨b, 0, none⟩))] [h2 : Ev n e y (.agg vs.toArray)] [hv : OneL vs] [hs : SizeOf P t sz] [hl : LenL vs sz] [hl2 : LenL old sz]
    [ht : Take Rs b (pts b (.cells old.toArray ty' (0, 0))) F] (k : SW P ops Q n w0 rest e ((b, pts b (.cells vs.toArray ty' (0, 0))) :: F)) :
    SW P ops Q n w0 ({ dst := none, op := .store t x y, type := ty, pos := pos, after := after, guard := none } :: rest) e Rs := by
  intro w hw
  have hb := hw.get ht
  have h1 := hl.out
  have h3 := hl2.out
  have h4 := run_storeCells (P := P) (b := b) (off := 0) vs 0 old w hv.out hb (by omega)
  have e1 : (old.take (0 + 0) ++ vs ++ old.drop (0 + 0 + vs.length)) = vs := by
    rw [List.drop_eq_nil_of_le (by omega)]; simp
  rw [e1] at h4
  have hr : ∀ o : Oper, o.op = .store t x y → (execOp (act n e).eval o).run P w = .ok .skip { w with heap := w.heap.setIfInBounds b (.cells vs.toArray ty' (0, 0)) } := by
    intro o ho
    unfold execOp; rw [ho]
    simp [h.out, h2.out, Instr.storeAt, Instr.sureAddr, storeVar, Value.cells, hs.out, h1, h4]
  exact wpM_skip rfl (hr _ rfl) (k _ (hw.set ht _))

end
end Go.Gsl

namespace Go.Gsl
set_option linter.unusedVariables false
open Go.ChangeShapes Go.WideShapes Go.RowKit

section
variable {H : Type} {enc : TypeId × Value → H} {P : Program} {W : World} {base : Nat} {t : TypeId} {v : Value} {d : DataW H} {p : List MemPlace}

/-- A law's contract, as the row wants it. -/
theorem call_of_spec {f : FuncId} {args : List Value} (W : World) (h : Spec P f args [0] [ro W] fun _ v Rs' => v = .bool true ∧ ∃ G, Rs' = (0, ro W) :: G) :
    Calls P f args.toArray W fun e W' => e = .returned (.bool true) ∧ Below W.heap.size W W' := by
  refine (h W [] W (by simpa using sat_start W)).mono ?_
  rintro e W' ⟨v, Rs', rfl, ⟨rfl, G, rfl⟩, hs⟩
  exact ⟨rfl, below_of_sat (F := G) hs⟩

theorem read_int {k : IntKind} (hu : P.underlying t = some (.int k)) (ho : Value.okWide P W .any base t v) (h : DataW.Trod enc P W 0 (fun _ => true) true t v d p) : ∃ n, v = .int k n ∧ (Lit.int k n).wf = true := by
  obtain ⟨x, rfl, _, _, wx⟩ := open_int hu ho h
  exact ⟨x, rfl, wx⟩
theorem read_bool (hu : P.underlying t = some .bool) (ho : Value.okWide P W .any base t v) (h : DataW.Trod enc P W 0 (fun _ => true) true t v d p) : ∃ b, v = .bool b := by
  obtain ⟨x, rfl, _, _⟩ := open_bool hu ho h
  exact ⟨x, rfl⟩

/-- cells in a row -/
def CellsAt (W : World) (a : Addr) (vs : List Value) : Prop := ∀ j v, vs[j]? = some v → W.cell? (a.add j) = some v

theorem mapM_some {α β : Type} (f : α → Option β) : ∀ (l : List α) (r : List β), l.mapM f = some r → r.length = l.length ∧ ∀ (j : Nat) (x : α), l[j]? = some x → f x = r[j]?
  | [], r, h => by simp at h; subst h; simp
  | x :: l, r, h => by
    simp only [List.mapM_cons, Option.bind_eq_bind, Option.pure_def] at h
    cases hx : f x with
    | none => rw [hx] at h; simp at h
    | some y =>
      rw [hx] at h
      simp only [Option.bind_some] at h
      cases hl : l.mapM f with
      | none => rw [hl] at h; simp at h
      | some ys =>
        rw [hl] at h
        simp only [Option.bind_some, Option.some.injEq] at h
        subst h
        obtain ⟨h1, h2⟩ := mapM_some f l ys hl
        refine ⟨by simp [h1], fun j z hz => ?_⟩
        cases j with
        | zero => simp at hz; subst hz; simp [hx]
        | succ j => simpa using h2 j z (by simpa using hz)

theorem cells_at {a : Addr} {n : Nat} {es : List Value} (h : W.cells? base a n = some es) : es.length = n ∧ CellsAt W a es := by
  unfold World.cells? at h
  split at h
  · obtain ⟨h1, h2⟩ := mapM_some _ _ _ h
    simp only [List.length_range] at h1
    refine ⟨h1, fun j v hj => ?_⟩
    have hlt : j < n := by
      have := (List.getElem?_eq_some_iff.1 hj).1
      omega
    have := h2 j j (by simp [hlt])
    rw [this, hj]
  · cases h

/-- a slice that came in: nil, or rows of cells, each with its reading -/
theorem read_slice {e : TypeId} (hu : P.underlying t = some (.slice e)) (ho : Value.okWide P W .any base t v) (h : DataW.Trod enc P W 0 (fun _ => true) true t v d p) :
    v = .slice none 0 0 ∨ ∃ (a : Addr) (len cap : Nat) (fuel : Nat), v = .slice (some a) len cap ∧ len ≤ cap ∧ cap ≤ maxLen ∧ ∀ i, i < len → ∃ es y, es.length = P.cellsOf e ∧ CellsAt W (a.add (i * P.cellsOf e)) es ∧ DataW.trod enc P W 0 (fun _ => true) true fuel e es = some y := by
  obtain ⟨a0, len, cap, rfl⟩ := okWide_slice hu ho
  obtain ⟨fuel, hf⟩ := h
  rcases Deep.open_slice hu hf with ⟨hcs, _⟩ | ⟨a, len', cap', m, n, D, Pl, hcs, _, hl, hm, hme, _, hel⟩
  · simp [Value.cells] at hcs
    obtain ⟨rfl, rfl, rfl⟩ := hcs
    exact .inl rfl
  · simp [Value.cells] at hcs
    obtain ⟨rfl, rfl, rfl⟩ := hcs
    refine .inr ⟨a, len, cap, n, rfl, hl, hm, fun i hi => ?_⟩
    simp only [if_true] at hme
    obtain ⟨es, hes, hd⟩ := hel i (by omega)
    obtain ⟨h1, h2⟩ := cells_at hes
    exact ⟨es, _, h1, h2, hd⟩

/-- one field of a struct's cells -/
theorem read_field {fs : Array Field} {cs : List Value} {fuel : Nat} {x : DataW H × List MemPlace} (hu : P.underlying t = some (.struct fs)) (h : DataW.trod enc P W 0 (fun _ => true) true fuel t cs = some x) :
    ∃ n, ∀ (i off ft : Nat), (fs[i]?).map (fun f => (f.offset, f.type)) = some (off, ft) → P.cellsOf ft = 1 → off < P.cellsOf t → ∃ c y, cs[off]? = some c ∧ DataW.trod enc P W 0 (fun _ => true) true n ft [c] = some y := by
  obtain ⟨xs, n, _, _, hl, hlen, hf⟩ := DataW.trod_struct hu h
  refine ⟨n, fun i off ft hi hc ho => ?_⟩
  obtain ⟨f, hfi, he⟩ := Option.map_eq_some_iff.1 hi
  simp only [Prod.mk.injEq] at he
  obtain ⟨rfl, rfl⟩ := he
  have h1 := hf i f hfi
  rw [hc] at h1
  have hlt : f.offset < cs.length := by omega
  have h2 : (cs.drop f.offset).take 1 = [cs[f.offset]] := by
    rw [List.drop_eq_getElem_cons hlt]; rfl
  rw [h2] at h1
  have h3 : i < xs.length := by rw [hlen]; exact (Array.getElem?_eq_some_iff.1 hfi).1
  exact ⟨cs[f.offset], xs[i], by simp [hlt], by rw [h1]; simp [h3]⟩

theorem cell_spot {a : Addr} {v : Value} (h : W.cell? a = some v) : a.spot = none := by
  unfold World.cell? at h
  split at h
  · split at h
    · cases h
    · rename_i hs; simpa using hs
  · cases h

theorem add_plain (b off i : Nat) : Addr.add ⟨b, off, none⟩ i = ⟨b, off + i, none⟩ := by
  unfold Addr.add; split
  · rename_i h; subst h; rfl
  · rfl

theorem cells_plain {a : Addr} {vs : List Value} {m : Nat} (hm : vs.length = m + 1) (h : CellsAt W a vs) : a = ⟨a.block, a.off, none⟩ := by
  have h0 := h 0 (vs[0]'(by omega)) (by simp)
  have h1 : Addr.add a 0 = a := by simp [Addr.add]
  rw [h1] at h0
  have := cell_spot h0
  obtain ⟨b, o, s⟩ := a
  simp at this
  subst this; rfl

theorem cell_int {cs : Value} {fuel : Nat} {k : IntKind} {y : DataW H × List MemPlace} (hu : P.underlying t = some (.int k)) (h : DataW.trod enc P W 0 (fun _ => true) true fuel t [cs] = some y) : ∃ n, cs = .int k n ∧ (Lit.int k n).wf = true := by
  obtain ⟨n, hn, _, hw⟩ := DataW.trod_int hu h
  exact ⟨n, by simpa using hn, hw⟩
theorem cell_bool {cs : Value} {fuel : Nat} {y : DataW H × List MemPlace} (hu : P.underlying t = some .bool) (h : DataW.trod enc P W 0 (fun _ => true) true fuel t [cs] = some y) : ∃ b, cs = .bool b := by
  obtain ⟨n, hn, _⟩ := DataW.trod_bool hu h
  exact ⟨n, by simpa using hn⟩

end
end Go.Gsl

namespace Go.Gsl
set_option linter.unusedVariables false

section
variable {P : Program} {ops : List Oper} {Q : Cont} {n : Nat} {w0 : World} {l rest : List Oper} {e : Env} {Rs Rs' F G : List Res} {ty : TypeId}

instance PureOp.makeFunc (fn : Fn) (fs cs : List Operand) (vs us : List Value) [h : EvL n e fs vs] [h2 : EvL n e cs us] : PureOp P n e (.makeFunc fn fs.toArray cs.toArray) ty (.func fn vs.toArray us.toArray) :=
  ⟨fun o h1 _ w => by unfold execOp; rw [h1]; simp [Instr.makeFunc, h.out, h2.out]⟩

theorem run_call_value {x : Operand} {f : FuncId} {fs cs : List Value} {args : List Operand} {vs : List Value} {ts : Array TypeId} {o : Oper} (ho : o.op = .call { callee := .value x, args := args.toArray, argTypes := ts }) [hx : Ev n e x (.func (.func f) fs.toArray cs.toArray)] (ha : args.map (act n e).eval = vs) (w : World) :
    (execOp (act n e).eval o).run P w = (callFunc f (fs ++ vs ++ cs).toArray).run P w := by
  unfold execOp
  rw [ho]
  simp [resolve, hx.out, Deferred.ofValue, invoke, ha]

/-- a call of a function value -/
theorem sw_callv {d : Nat} {x : Operand} {f : FuncId} {fs cs : List Value} {args : List Operand} {ts : Array TypeId} {ty : TypeId} {pos : String} {after : Array Edge} {vs : List Value} {ks : List Nat} {rs : List HProp} {Post : List Res → Value → List Res → Prop}
    [hx : Ev n e x (.func (.func f) fs.toArray cs.toArray)] [ha : EvL n e args vs] (hs : Spec P f (fs ++ vs ++ cs) ks rs Post) [hb : Body P f] [hsp : Split Rs ks rs F]
    (k : ∀ v Rs', Post F v Rs' → SW P ops Q n w0 rest ((d, v) :: e) Rs') :
    SW P ops Q n w0 ({ dst := some d, op := .call { callee := .value x, args := args.toArray, argTypes := ts }, type := ty, pos := pos, after := after, guard := none } :: rest) e Rs := by
  intro w hw
  refine wpM_enter rfl (by rw [run_call_value rfl ha.out, hb.out]) (hs w0 F w (hw.ent hsp.ent)) ?_
  rintro x w' ⟨v, Rs', rfl, hp, hw'⟩
  refine ⟨v, rfl, ?_⟩
  rw [actM_put]
  exact k v Rs' hp w' hw'

theorem sw_rem_nn {x y : Operand} {k : IntKind} {a b : Int} {d : Nat} {t t' ty : TypeId} {pos : String} {after : Array Edge} [hx : Ev n e x (.int k a)] [hy : Ev n e y (.int k b)] (h : 0 ≤ a ∧ 0 < b)
    (q : SW P ops Q n w0 rest ((d, .int k (a % b)) :: e) Rs) : SW P ops Q n w0 ({ dst := some d, op := .binOp .rem t x y t', type := ty, pos := pos, after := after, guard := none } :: rest) e Rs :=
  sw_rem (by omega) (by rw [Int.tmod_eq_emod_of_nonneg h.1]; exact q)

theorem runop_rem_nn {x y : Operand} {k : IntKind} {a b : Int} {t t' : TypeId} [hx : Ev n e x (.int k a)] [hy : Ev n e y (.int k b)] (h : 0 ≤ a ∧ 0 < b) : RunOp P n w0 e Rs (.binOp .rem t x y t') ty (.int k (a % b)) := by
  rw [← Int.tmod_eq_emod_of_nonneg h.1]
  exact runop_rem (by omega)

theorem sw_load_ro {W : World} {d : Nat} {t : TypeId} {x : Operand} {a : Addr} {v : Value} {pos : String} {after : Array Edge} [h : Ev n e x (.pointer (some a))] [hn : NonAgg P t] [tk : Take Rs 0 (ro W) F] (hc : W.cell? a = some v)
    (q : SW P ops Q n w0 rest ((d, v) :: e) Rs) : SW P ops Q n w0 ({ dst := some d, op := .load t x, type := ty, pos := pos, after := after, guard := none } :: rest) e Rs :=
  sw_op (h := runop_load (ro_cell hc)) q

theorem take_ent {k : Nat} {r : HProp} [t : Take Rs k r F] : Ent Rs ((k, r) :: F) := t.ent
end
end Go.Gsl

namespace Go.Gsl
set_option linter.unusedVariables false

/-- a mark more on the activation -/
def Cont.mark (r : Nat) (Q : Cont) : Cont := ⟨Q.r, { target := .collected r, args := #[] } :: Q.m, Q.q⟩
/-- the block for the rounds' deferred calls -/
def defers0 (r : Nat) : HProp := pts r (.deferred (some []))
/-- the loop's record -/
def LoopR (l : Nat) (rc : Loop) (st : LoopState) (pe : Option Code) : HProp := pts l (.loop { rc with state := st, pending := pe })

/-- The contract of a loop's round, as the iterator sees it. -/
def SpecY (P : Program) (l : Nat) (args : List Value) (ks : List Nat) (rs : List HProp) (Post : List Res → Value → List Res → Prop) : Prop :=
  ∀ (w0 : World) (F : List Res) (w : World), Sat w0 w (ks.zip rs ++ F) → ∃ fn tmps assign body, (Instr.yield l args.toArray).run P w = .ok (.round l fn tmps assign body) w ∧
    RoundIn (fz none) 0 P l fn tmps assign body w fun x w' => ∃ v Rs', x = .returned v ∧ Post F v Rs' ∧ Sat w0 w' Rs'

/-- The contract of an iterator: a function that is handed 'yield' and what it has captured. 'Nx pre x': x may come when 'pre' have come; 'Dn xs': these are all. -/
def IterC (P : Program) (f : FuncId) (cs : List Value) (ks : List Nat) (rs : List HProp) {α : Type} (enc : α → Value) (Nx : List α → α → Prop) (Dn : List α → Prop) : Prop :=
  ∀ (l : Nat) (J Jx : List α → HProp),
    (∀ pre x, Nx pre x → SpecY P l [enc x] [l] [J pre] fun F v Rs' => (v = .bool true ∧ Rs' = (l, J (pre ++ [x])) :: F) ∨ (v = .bool false ∧ Rs' = (l, Jx (pre ++ [x])) :: F)) →
    Spec P f (.func (.yield l) #[] #[] :: cs) (l :: ks) (J [] :: rs) fun F v Rs' => v = .tuple #[] ∧
      ((∃ xs, Dn xs ∧ Rs' = (l, J xs) :: (ks.zip rs ++ F)) ∨ (∃ pre x, Nx pre x ∧ Rs' = (l, Jx (pre ++ [x])) :: (ks.zip rs ++ F)))

section
variable {P : Program} {ops : List Oper} {Q : Cont} {n : Nat} {w0 : World} {l rest : List Oper} {e : Env} {Rs Rs' F G : List Res} {ty : TypeId}

theorem run_call_yield {x : Operand} {lp : Nat} {args : List Operand} {vs : List Value} {ts : Array TypeId} {o : Oper} (ho : o.op = .call { callee := .value x, args := args.toArray, argTypes := ts }) [hx : Ev n e x (.func (.yield lp) #[] #[])] (ha : args.map (act n e).eval = vs) (w : World) :
    (execOp (act n e).eval o).run P w = (Instr.yield lp vs.toArray).run P w := by
  unfold execOp
  rw [ho]
  simp [resolve, hx.out, Deferred.ofValue, invoke, ha]

/-- a call of 'yield' -/
theorem sw_yield {d : Nat} {x : Operand} {lp : Nat} {args : List Operand} {ts : Array TypeId} {ty : TypeId} {pos : String} {after : Array Edge} {vs : List Value} {ks : List Nat} {rs : List HProp} {Post : List Res → Value → List Res → Prop}
    [hx : Ev n e x (.func (.yield lp) #[] #[])] [ha : EvL n e args vs] (hq : Q.r = none) (hs : SpecY P lp vs ks rs Post) [hsp : Split Rs ks rs F]
    (k : ∀ v Rs', Post F v Rs' → SW P ops Q n w0 rest ((d, v) :: e) Rs') :
    SW P ops Q n w0 ({ dst := some d, op := .call { callee := .value x, args := args.toArray, argTypes := ts }, type := ty, pos := pos, after := after, guard := none } :: rest) e Rs := by
  intro w hw
  obtain ⟨fn, tmps, assign, body, hy, hR⟩ := hs w0 F w (hw.ent hsp.ent)
  refine wpM_upon rfl (by rw [actM_eval, run_call_yield rfl ha.out, hy]) (fun _ h => by cases h) ?_
  rw [Oper.uponIn_round]
  refine ⟨fun h => by simp [fz, Fence.wide] at h, ?_⟩
  rw [hq]
  refine RoundIn.mono hR ?_
  rintro x w' ⟨v, Rs', rfl, hp, hw'⟩
  show wpListIn _ _ _ _ _ _ ((actM Q.m n e).put (some d) v) w'
  rw [actM_put]
  have := k v Rs' hp w' hw'
  rwa [hq] at this

/-! ### a round -/
/-- the loop's assignments, then the body -/
def Cont.rAssign (P : Program) (l : Nat) (body : Code) (Qb : Cont) : Cont :=
  ⟨some l, [], Exit.then (fun a₁ w₁ => ∃ w₂, (Instr.beginRound l).run P w₁ = .ok () w₂ ∧ body.wpIn (fz (some l)) 0 P Qb.q a₁ w₂) (fun _ _ _ => False)⟩
/-- what a round comes to -/
def Cont.rEnd (P : Program) (l : Nat) (rc : Loop) (S : List Res) (Sx : Code → List Res) (w0 : World) (F : List Res) : Cont :=
  ⟨some l, [], roundPost P l fun x w' => (x = .returned (.bool true) ∧ Sat w0 w' ((l, LoopR l rc .ready none) :: S ++ F)) ∨ (x = .returned (.bool false) ∧ ∃ c, Sat w0 w' ((l, LoopR l rc .done (some c)) :: Sx c ++ F))⟩

theorem sq_rAssign {lp : Nat} {rc : Loop} {pe : Option Code} {body : Code} {S : List Res} {Sx : Code → List Res} {F' : List Res} [t : Take Rs lp (LoopR lp rc .ready pe) F]
    (h : SC P (Cont.rEnd P lp rc S Sx w0 F') n w0 body e ((lp, LoopR lp rc .busy none) :: F)) (hp : pe = none := by rfl) :
    SQ (Cont.rAssign P lp body (Cont.rEnd P lp rc S Sx w0 F')) n w0 .normal e Rs := by
  subst hp
  intro w hw
  have hb := hw.get t
  refine ⟨_, run_beginRound hb rfl, ?_⟩
  have h2 := h _ (hw.set t (.loop { rc with state := .busy, pending := none }))
  exact h2

theorem sq_rEnd {lp : Nat} {rc : Loop} {S : List Res} {Sx : Code → List Res} {F' : List Res} {st : LoopState} {pe : Option Code} [t : Take Rs lp (LoopR lp rc st pe) F] (h : Ent F (S ++ F')) :
    SQ (Cont.rEnd P lp rc S Sx w0 F') n w0 .normal e Rs := by
  intro w hw
  have hb := hw.get t
  refine ⟨_, _, run_endRound none hb, .inl ⟨rfl, ?_⟩⟩
  exact (hw.set t (.loop { rc with state := .ready, pending := none })).ent (Ent.cons _ h)

theorem sq_rEnd_ret {lp : Nat} {rc : Loop} {S : List Res} {Sx : Code → List Res} {F' : List Res} {st : LoopState} {pe : Option Code} [t : Take Rs lp (LoopR lp rc st pe) F] (h : Ent F (Sx .ret ++ F')) :
    SQ (Cont.rEnd P lp rc S Sx w0 F') n w0 .ret e Rs := by
  intro w hw
  have hb := hw.get t
  refine ⟨_, _, run_endRound (some .ret) hb, .inr ⟨rfl, .ret, ?_⟩⟩
  exact (hw.set t (.loop { rc with state := .done, pending := some .ret })).ent (Ent.cons _ h)

theorem sq_rEnd_exit {lp id : Nat} {rc : Loop} {S : List Res} {Sx : Code → List Res} {F' : List Res} {st : LoopState} {pe : Option Code} [t : Take Rs lp (LoopR lp rc st pe) F] (h : Ent F (Sx (.exit id) ++ F')) :
    SQ (Cont.rEnd P lp rc S Sx w0 F') n w0 (.exit id) e Rs := by
  intro w hw
  have hb := hw.get t
  refine ⟨_, _, run_endRound (some (.exit id)) hb, .inr ⟨rfl, .exit id, ?_⟩⟩
  exact (hw.set t (.loop { rc with state := .done, pending := some (.exit id) })).ent (Ent.cons _ h)

/-! ### the statement -/
theorem act_round {m : List Deferred} {p : Nat} {v : Value} : ({ tmps := ((#[p] : Array Tmp).zip #[v]).foldl (fun tmps (t, a) => tmps.setIfInBounds t a) (actM m n e).tmps, defers := [] } : Act) = actM [] n ((p, v) :: e) := by
  have := actM_put [] n e p v
  simp only [actM, Act.put] at this ⊢
  simp only [← this]
  simp

theorem Ent.perm {A B : List Res} (h : A.Perm B) : Ent A B := by
  induction h with
  | nil => exact Ent.refl _
  | cons x _ ih => exact Ent.cons x ih
  | swap x y l => exact Ent.swap _ _ _
  | trans _ _ h1 h2 => exact h1.trans h2

theorem sat_ex {α : Type} {k : Nat} {R : α → HProp} {w : World} (h : Sat w0 w ((k, fun h => ∃ x, R x h) :: F)) : ∃ x, Sat w0 w ((k, R x) :: F) := by
  obtain ⟨x, _, h1⟩ := h.opn (φ := fun _ => True) (p := R) fun y ⟨x, hx⟩ => ⟨x, trivial, hx⟩
  exact ⟨x, h1⟩
theorem sat_ex_of {α : Type} {k : Nat} {R : α → HProp} {w : World} (x : α) (h : Sat w0 w ((k, R x) :: F)) : Sat w0 w ((k, fun h => ∃ x, R x h) :: F) := by
  exact h.ent (Ent.head fun y hx => ⟨x, hx⟩)

theorem roundPost_mono {lp : Nat} {R R' : Ending → World → Prop} (h : ∀ x w, R x w → R' x w) (e : Exit) (a : Act) (w : World) : roundPost P lp R e a w → roundPost P lp R' e a w := by
  cases e <;> simp only [roundPost] <;> first | exact fun h => h | (rintro ⟨v, w', h1, h2⟩; exact ⟨v, w', h1, h _ _ h2⟩)

/-- 'for x := range g { body }', at the outermost. -/
theorem sc_rangeFunc {α : Type} {g : Operand} {p : Nat} {assign body : Code} {f : FuncId} {cs : List Value} {ks : List Nat} {rs : List HProp} {enc : α → Value} {Nx : List α → α → Prop} {Dn : List α → Prop}
    (it : IterC P f cs ks rs enc Nx Dn) (hq : Q.r = none) (St : List α → List Res) (Sx : Code → List α → List Res) [hg : Ev n e g (.func (.func f) #[] cs.toArray)] [hb : Body P f] [hsp : Split Rs ks rs F]
    (h0 : Ent F (St []))
    (round : ∀ w0 lp rc F' pre x, Nx pre x → SC P (Cont.rAssign P lp body (Cont.rEnd P lp rc (St (pre ++ [x])) (fun c => Sx c (pre ++ [x])) w0 F')) n w0 assign ((p, enc x) :: e) ((lp, LoopR lp rc .ready none) :: (St pre ++ F')))
    (done : ∀ r xs, Dn xs → SQ (Q.mark r) n w0 .normal e ((r, defers0 r) :: (ks.zip rs ++ St xs)))
    (stop : ∀ r c pre x, Nx pre x → SC P (Q.mark r) n w0 c e ((r, defers0 r) :: (ks.zip rs ++ Sx c (pre ++ [x])))) :
    SC P Q n w0 (.rangeFunc g #[p] assign body) e Rs := by
  intro w hw
  rw [hq]
  refine wpIn_rangeFunc ?_
  intro fn hfn
  obtain ⟨rc, hrc⟩ : ∃ rc : Loop, rc = { state := .ready, pending := none, fn, tmps := (actM Q.m n e).tmps, params := #[p], assign, body, defers := w.heap.size } := ⟨_, rfl⟩
  obtain ⟨W1, hW1⟩ : ∃ W1, (w.alloc (.deferred (some []))).alloc (.loop rc) = W1 := ⟨_, rfl⟩
  have hs0 : Sat w0 w (ks.zip rs ++ F) := hw.ent hsp.ent
  have hs1 : Sat w0 (w.alloc (.deferred (some []))) ((w.heap.size, defers0 w.heap.size) :: (ks.zip rs ++ F)) := hs0.new _
  have hs2 : Sat w0 W1 ((w.heap.size + 1, pts (w.heap.size + 1) (.loop rc)) :: (w.heap.size, defers0 w.heap.size) :: (ks.zip rs ++ F)) := by
    have := hs1.new (.loop rc)
    rw [World.size_alloc] at this
    rw [← hW1]; exact this
  refine ⟨w.heap.size + 1, [{ target := .collected w.heap.size, args := #[] }], W1, { target := .fn (.func f) cs.toArray, args := #[.func (.yield (w.heap.size + 1)) #[] #[]] }, W1, f,
    #[.func (.yield (w.heap.size + 1)) #[] #[]] ++ cs.toArray, W1, ?_, ?_, fun _ _ => trivial, ?_, fun h => by simp [fz, Fence.wide] at h, ?_⟩
  · rw [← hW1, hrc]; exact run_enterLoop_outer _ _ _ _ _
  · have : (actM Q.m n e).eval g = .func (.func f) #[] cs.toArray := hg.out
    simp only [resolve, this]
    simp [Deferred.ofValue, Act.eval]
  · have h3 : #[.func (.yield (w.heap.size + 1)) #[] #[]] ++ cs.toArray = #[.func (.yield (w.heap.size + 1)) #[] #[]] ++ cs.toArray := rfl
    simp only [invoke]
    exact hb.out _ _
  · refine callsIn_fz.2 ?_
    have hspec := it (w.heap.size + 1) (fun pre => hall ((w.heap.size + 1, LoopR (w.heap.size + 1) rc .ready none) :: St pre)) (fun pre h => ∃ c, hall ((w.heap.size + 1, LoopR (w.heap.size + 1) rc .done (some c)) :: Sx c pre) h) ?_
    · have h4 : #[.func (.yield (w.heap.size + 1)) #[] #[]] ++ cs.toArray = (Value.func (.yield (w.heap.size + 1)) #[] #[] :: cs).toArray := by simp
      rw [h4]
      refine Calls.mono (hspec w0 [(w.heap.size, defers0 w.heap.size)] W1 ?_) ?_
      · show Sat w0 W1 ((w.heap.size + 1, _) :: (ks.zip rs ++ [(w.heap.size, defers0 w.heap.size)]))
        refine hs2.ent ?_
        have e1 : pts (w.heap.size + 1) (.loop rc) = LoopR (w.heap.size + 1) rc .ready none := by unfold LoopR; rw [hrc]
        rw [e1]
        refine Ent.trans (B := (w.heap.size + 1, LoopR (w.heap.size + 1) rc .ready none) :: (St [] ++ (ks.zip rs ++ [(w.heap.size, defers0 w.heap.size)]))) (Ent.cons _ ?_) (Ent.hall_close _ (_ :: _) _)
        refine Ent.trans (B := (w.heap.size, defers0 w.heap.size) :: (ks.zip rs ++ St [])) (Ent.cons _ (Ent.append (Ent.refl _) h0)) (Ent.perm ?_)
        refine (List.perm_append_comm (l₁ := [_]) (l₂ := ks.zip rs ++ St [])).trans ?_
        rw [← List.append_assoc]
        exact (List.perm_append_comm (l₁ := ks.zip rs) (l₂ := St [])).append_right _
      · rintro x w' ⟨v, Rs', rfl, ⟨rfl, hc⟩, hs'⟩
        have hperm : ∀ S : List Res, Ent (S ++ (ks.zip rs ++ [(w.heap.size, defers0 w.heap.size)])) ((w.heap.size, defers0 w.heap.size) :: (ks.zip rs ++ S)) := fun S => by
          refine Ent.perm (List.Perm.symm ?_)
          refine (List.perm_append_comm (l₁ := [_]) (l₂ := ks.zip rs ++ S)).trans ?_
          rw [← List.append_assoc]
          exact (List.perm_append_comm (l₁ := ks.zip rs) (l₂ := S)).append_right _
        rcases hc with ⟨xs, hD, rfl⟩ | ⟨pre, x, hN, rfl⟩
        · have hs3 := hs'.ent (Ent.hall_open _ (_ :: _) _)
          have hb3 := hs3.get (Take.here _ _ _)
          refine ⟨none, _, run_endLoop hb3 (by simp), ?_⟩
          have hs4 := (hs3.set (Take.here _ _ _) (.loop { rc with state := .exhausted, pending := none })).ent ((Ent.drop _ _).trans (hperm (St xs)))
          exact done w.heap.size xs hD _ hs4
        · obtain ⟨c, hc⟩ := sat_ex (R := fun c => hall ((w.heap.size + 1, LoopR (w.heap.size + 1) rc .done (some c)) :: Sx c (pre ++ [x]))) hs'
          have hs3 := hc.ent (Ent.hall_open _ (_ :: _) _)
          have hb3 := hs3.get (Take.here _ _ _)
          refine ⟨some c, _, run_endLoop hb3 (by simp), ?_⟩
          have hs4 := (hs3.set (Take.here _ _ _) (.loop { rc with state := .exhausted, pending := some c })).ent ((Ent.drop _ _).trans (hperm (Sx c (pre ++ [x]))))
          have := stop w.heap.size c pre x hN _ hs4
          rw [show (Q.mark w.heap.size).r = none from hq] at this
          exact this
    · intro pre x hN w0' F' w' hs'
      have hs3 := hs'.ent (Ent.hall_open _ (_ :: _) _)
      have hb3 := hs3.get (Take.here _ _ _)
      have hy := run_yield (P := P) (args := #[enc x]) hb3 (by simp [hrc])
      refine ⟨fn, _, assign, body, by rw [hrc] at hy; exact hy, ?_⟩
      refine roundIn_of_wpIn (F := fz none) hfn ?_
      have hr := round w0' (w.heap.size + 1) rc F' pre x hN w' hs3
      have ha := act_round (m := Q.m) (n := n) (e := e) (p := p) (v := enc x)
      rw [show (Cont.rAssign P (w.heap.size + 1) body (Cont.rEnd P (w.heap.size + 1) rc (St (pre ++ [x])) (fun c => Sx c (pre ++ [x])) w0' F')).m = [] from rfl, ← ha] at hr
      refine Code.wpIn_mono ?_ hr
      intro x0 a0 w1 hq1
      cases x0 with
      | normal =>
        obtain ⟨w2, hb, hbody⟩ := hq1
        refine ⟨w2, hb, Code.wpIn_mono ?_ hbody⟩
        intro e1 a1 w4 h1
        have h2 : roundPost P (w.heap.size + 1) (fun y w' => (y = .returned (.bool true) ∧ Sat w0' w' ((w.heap.size + 1, LoopR (w.heap.size + 1) rc .ready none) :: St (pre ++ [x]) ++ F')) ∨ (y = .returned (.bool false) ∧ ∃ c, Sat w0' w' ((w.heap.size + 1, LoopR (w.heap.size + 1) rc .done (some c)) :: Sx c (pre ++ [x]) ++ F'))) e1 a1 w4 := h1
        refine roundPost_mono ?_ e1 a1 w4 h2
        rintro y w3 (⟨rfl, hs⟩ | ⟨rfl, c, hs⟩)
        · exact ⟨_, _, rfl, .inl ⟨rfl, rfl⟩, hs.ent (Ent.hall_close _ (_ :: _) _)⟩
        · refine ⟨_, _, rfl, .inr ⟨rfl, rfl⟩, ?_⟩
          exact sat_ex_of (R := fun c => hall ((w.heap.size + 1, LoopR (w.heap.size + 1) rc .done (some c)) :: Sx c (pre ++ [x]))) c (hs.ent (Ent.hall_close _ (_ :: _) _))
      | _ => exact hq1.elim

/-! ### on behind the loop -/
theorem sq_then_m {r : Nat} {y : Code} (h : SC P (Q.mark r) n w0 y e Rs) : SQ ((Q.next P y).mark r) n w0 .normal e Rs := fun w hw => h w hw
theorem sq_then_ret_m {r : Nat} {y : Code} (h : SQ (Q.mark r) n w0 .ret e Rs) : SQ ((Q.next P y).mark r) n w0 .ret e Rs := fun w hw => h w hw
theorem sq_then_exit_m {r : Nat} {y : Code} {id : Nat} (h : SQ (Q.mark r) n w0 (.exit id) e Rs) : SQ ((Q.next P y).mark r) n w0 (.exit id) e Rs := fun w hw => h w hw
theorem sq_block_m {r id : Nat} (h : SQ (Q.mark r) n w0 .normal e Rs) : SQ ((Q.block id).mark r) n w0 .normal e Rs := fun w hw => h w hw
theorem sq_block_ret_m {r id : Nat} (h : SQ (Q.mark r) n w0 .ret e Rs) : SQ ((Q.block id).mark r) n w0 .ret e Rs := fun w hw => h w hw
theorem sq_block_exit_m {r id : Nat} (h : SQ (Q.mark r) n w0 .normal e Rs) : SQ ((Q.block id).mark r) n w0 (.exit id) e Rs := fun w hw => by
  have := h w hw
  show Exit.inBlock id Q.q (.exit id) (actM (Q.mark r).m n e) w
  have h2 : Q.q .normal (actM (Q.mark r).m n e) w := this
  simpa [Exit.inBlock] using h2
theorem sq_round_ret_m {α : Type} {inv : α → Env} {R : α → List Res} {m : α → Nat} {x : α} {r : Nat} (h : SQ (Q.mark r) n w0 .ret e Rs) : SQ ((Q.round n w0 inv R m x).mark r) n w0 .ret e Rs := fun w hw => h w hw
theorem Calm.mark {r : Nat} (h : Calm Q) : Calm (Q.mark r) := fun c a d v w x => h c a d v w x

theorem sq_ret_m {r : Nat} {fn : Func} {R : Value → List Res → Prop} (hq : Q.q = (Post P fn w0 R).q) [t : Take Rs r (defers0 r) F] (h : SQ Q n w0 .ret e F) : SQ (Q.mark r) n w0 .ret e Rs := by
  intro w hw
  show Q.q .ret _ _
  have hb := hw.get t
  have h2 := h _ ((hw.set t (.deferred none)).ent (Ent.drop _ _))
  rw [hq] at h2 ⊢
  exact ⟨fun _ h => (by cases h), by simp, .inl ⟨r, _, rfl, run_takeDeferred hb, h2.2⟩⟩
theorem sq_end_m {r : Nat} {fn : Func} {R : Value → List Res → Prop} (hq : Q.q = (Post P fn w0 R).q) [t : Take Rs r (defers0 r) F] (h : SQ Q n w0 .normal e F) : SQ (Q.mark r) n w0 .normal e Rs := by
  intro w hw
  show Q.q .normal _ _
  have hb := hw.get t
  have h2 := h _ ((hw.set t (.deferred none)).ent (Ent.drop _ _))
  rw [hq] at h2 ⊢
  exact ⟨fun _ h => (by cases h), by simp, .inl ⟨r, _, rfl, run_takeDeferred hb, h2.2⟩⟩

/-- nothing comes so far -/
def falseR : List Res := [(0, fun _ => False)]
theorem sc_false {c : Code} {A : List Res} : SC P Q n w0 c e (A ++ falseR) := by
  intro w hw
  obtain ⟨_, z, _, hs⟩ := hw
  obtain ⟨a, b, _, _, _, _, _, _, _, h, _⟩ := (sepL_append A falseR _).1 hs
  exact h.elim

/-- a result in a variable of its own -/
theorem results_runc {fn : Func} {t b : Nat} {ty : TypeId} {v : Value} {w : World} (hr : fn.results = #[.cell t ty]) [h : Lk e t (.pointer (some ⟨b, 0, none⟩))] [hn : Lt t n] [hna : NonAgg P ty] (hc : w.cell? ⟨b, 0, none⟩ = some v) : (results fn (act n e).tmps).run P w = .ok v w := by
  have a1 : (slots n e)[t]? = some (.pointer (some ⟨b, 0, none⟩)) := by rw [slots_getElem? n e t hn.out, h.out]
  simp [results, hr, act, a1, loadVar, hna.out, hc, asAddr]
theorem sq_retc {fn : Func} {R : Value → List Res → Prop} {t b : Nat} {ty ty' : TypeId} {v : Value} {fr : Nat × Nat} (hr : fn.results = #[.cell t ty]) [Lk e t (.pointer (some ⟨b, 0, none⟩))] [Lt t n] [NonAgg P ty] [ht : Take Rs b (pts b (.cells [v].toArray ty' fr)) F] (h : ∃ Rs', R v Rs' ∧ Ent Rs Rs') :
    SQ (Post P fn w0 R) n w0 .ret e Rs := by
  obtain ⟨Rs', h1, h2⟩ := h
  intro w hw
  exact ⟨fun _ h => (by cases h), v, results_runc hr (cell_of (hw.get ht) (by simp)), v, Rs', rfl, h1, hw.ent h2⟩
end
end Go.Gsl

namespace Go.Gsl
set_option linter.unusedVariables false

/-- What a slice's elements are. -/
class Elem (P : Program) (t : TypeId) (e : outParam TypeId) (sz nb : outParam Nat) (z : outParam Value) : Prop where
  und : P.underlying t = some (.slice e)
  info : (P.info? e).map (fun i => (i.zero, i.size, i.bytes)) = some (some z, sz, nb)

theorem Fits.left {a b : Hp} {w : World} (h : Fits (hjoin a b) w) : Fits a w := fun k o f hk => h k o f (by simp [hjoin, hk])
theorem Fits.right {a b : Hp} {w : World} (hd : hdisj a b) (h : Fits (hjoin a b) w) : Fits b w := by rw [hjoin_comm hd] at h; exact h.left

/-- From 'r' the cells from 'a' on can be read: 'xs'. -/
def Reads (r : HProp) (a : Option Addr) (xs : List Value) : Prop := ∀ h w, r h → Fits h w → ∀ j v, xs[j]? = some v → ∃ ad, a = some ad ∧ w.cell? (ad.add j) = some v

section
variable {P : Program} {ops : List Oper} {Q : Cont} {n : Nat} {w0 : World} {l rest : List Oper} {e : Env} {Rs Rs' F : List Res} {ty : TypeId}

theorem Reads.sat {r : HProp} {a : Option Addr} {xs : List Value} {k : Nat} {w : World} (hr : Reads r a xs) [t : Take Rs k r F] (hw : Sat w0 w Rs) : ∀ j v, xs[j]? = some v → ∃ ad, a = some ad ∧ w.cell? (ad.add j) = some v := by
  obtain ⟨_, z, hf, hs⟩ := hw
  obtain ⟨x, y, hd, rfl, hx, _⟩ := t.ent _ hs
  exact hr x w hx hf.left

theorem cell_row {w : World} {b : Nat} {cs : List Value} {t : TypeId} {fr : Nat × Nat} {off j : Nat} {v : Value} (hb : w.heap[b]? = some (.cells cs.toArray t fr)) (h : cs[off + j]? = some v) : w.cell? (Addr.add ⟨b, off, none⟩ j) = some v := by
  rw [add_plain]
  exact cell_of hb (by simpa using h)

/-- a row of one's own is read -/
theorem reads_pts {b off : Nat} {cs : List Value} {t : TypeId} {fr : Nat × Nat} {xs : List Value} (h : ∀ j v, xs[j]? = some v → cs[off + j]? = some v) : Reads (pts b (.cells cs.toArray t fr)) (some ⟨b, off, none⟩) xs :=
  fun hp w hr hf j v hj => ⟨_, rfl, cell_row (hf b _ _ hr.1) (h j v hj)⟩
theorem reads_imm {b off : Nat} {cs : List Value} {t : TypeId} {fr : Nat × Nat} {xs : List Value} (h : ∀ j v, xs[j]? = some v → cs[off + j]? = some v) : Reads (imm b (.cells cs.toArray t fr)) (some ⟨b, off, none⟩) xs :=
  fun hp w hr hf j v hj => ⟨_, rfl, cell_row (hf b _ _ hr) (h j v hj)⟩
theorem reads_nil (r : HProp) (a : Option Addr) : Reads r a [] := fun _ _ _ _ _ _ h => by simp at h
theorem reads_ro {W : World} {a : Option Addr} {xs : List Value} (h : ∀ j v, xs[j]? = some v → ∃ ad, a = some ad ∧ W.cell? (ad.add j) = some v) : Reads (ro W) a xs := by
  intro hp w hr hf j v hj
  obtain ⟨ad, rfl, hc⟩ := h j v hj
  refine ⟨ad, rfl, ?_⟩
  rw [← hc]
  refine World.cell?_of_block ?_
  have hlt := lt_of_cell hc
  have : (W.heap[(ad.add j).block]?).isSome := by simp [hlt]
  obtain ⟨o, ho⟩ := Option.isSome_iff_exists.1 this
  rw [ho]
  exact hf _ _ _ (hr _ _ ho)

theorem src_imm (q : Nat) {b : Nat} {src r : List Value} {t : TypeId} {fr : Nat × Nat} [tk : Take Rs q (imm b (.cells (src ++ r).toArray t fr)) F] : ∀ w, Sat w0 w Rs → ∀ j v, src[j]? = some v → ∃ ad, some (⟨b, 0, none⟩ : Addr) = some ad ∧ w.cell? (ad.add j) = some v :=
  fun w hw j v hj => ⟨_, rfl, cell_row (hw.get_imm tk) (by rw [Nat.zero_add, List.getElem?_append_left (List.getElem?_eq_some_iff.1 hj).1]; exact hj)⟩
theorem src_pts {b : Nat} {src r : List Value} {t : TypeId} {fr : Nat × Nat} [tk : Take Rs b (pts b (.cells (src ++ r).toArray t fr)) F] : ∀ w, Sat w0 w Rs → ∀ j v, src[j]? = some v → ∃ ad, some (⟨b, 0, none⟩ : Addr) = some ad ∧ w.cell? (ad.add j) = some v :=
  fun w hw j v hj => ⟨_, rfl, cell_row (hw.get tk) (by rw [Nat.zero_add, List.getElem?_append_left (List.getElem?_eq_some_iff.1 hj).1]; exact hj)⟩
theorem src_pts0 {b : Nat} {src : List Value} {t : TypeId} {fr : Nat × Nat} [tk : Take Rs b (pts b (.cells src.toArray t fr)) F] : ∀ w, Sat w0 w Rs → ∀ j v, src[j]? = some v → ∃ ad, some (⟨b, 0, none⟩ : Addr) = some ad ∧ w.cell? (ad.add j) = some v :=
  fun w hw j v hj => ⟨_, rfl, cell_row (hw.get tk) (by rw [Nat.zero_add]; exact hj)⟩
theorem one_ints (k : IntKind) (xs : List Int) : ∀ v ∈ xs.map (Value.int k), v.oneCell' = true := by
  intro v hv; obtain ⟨x, _, rfl⟩ := List.mem_map.1 hv; rfl
theorem one_bools (xs : List Bool) : ∀ v ∈ xs.map Value.bool, v.oneCell' = true := by
  intro v hv; obtain ⟨x, _, rfl⟩ := List.mem_map.1 hv; rfl

/-! ### make and literals -/
theorem sw_makeSlice {d : Nat} {t el : TypeId} {nb : Nat} {x y : Operand} {z : Value} {pos : String} {after : Array Edge} {i j : Int} (m c : Nat) [hx : Ev n e x (.int .i64 i)] [hy : Ev n e y (.int .i64 j)] [he : Elem P t el 1 nb z] [hz : One z]
    (h : i = m ∧ j = c ∧ m ≤ c ∧ c ≤ 9223372036854775807 ∧ nb * c ≤ 281474976710656)
    (k : ∀ b, SW P ops Q n w0 rest ((d, .slice (some ⟨b, 0, none⟩) m c) :: e) ((b, pts b (.cells (List.replicate c z).toArray el (0, 0))) :: Rs)) :
    SW P ops Q n w0 ({ dst := some d, op := .makeSlice t x y, type := ty, pos := pos, after := after, guard := none } :: rest) e Rs := by
  intro w hw
  obtain ⟨rfl, rfl, h1, h2, h3⟩ := h
  obtain ⟨i0, hi, hz0, hz1, hz2⟩ := info_parts he.info
  have hr : ∀ o : Oper, o.op = .makeSlice t x y → (execOp (act n e).eval o).run P w = .ok (.value (.slice (some ⟨w.heap.size, 0, none⟩) m c)) (w.alloc (.cells (List.replicate c z).toArray el)) := by
    intro o ho
    unfold execOp; rw [ho]
    have h5 : (i0.bytes : Int) * (c : Int) ≤ 281474976710656 := by
      have : ((nb * c : Nat) : Int) ≤ ((281474976710656 : Nat) : Int) := Int.ofNat_le.2 h3
      rw [Int.natCast_mul] at this; rw [hz2]; exact this
    have h6 := run_make (P := P) w t el i0 z he.und hi hz0 .i64 .i64 m c (by omega) (by omega) h5 (by omega)
    have h7 : madeCells z.cells (c * i0.size) = (List.replicate c z).toArray := by
      rw [hz1, cells_one hz.out, Nat.mul_one]
      unfold madeCells
      apply Array.ext_getElem?
      intro j
      by_cases hj : j < c <;> simp [hj, Nat.mod_one]
    simp only [Int.toNat_natCast, h7] at h6
    simp [hx.out, hy.out, h6]
  refine wpM_value rfl (hr _ rfl) ?_
  rw [actM_put]
  exact k w.heap.size _ (hw.new _)

theorem runp_buildSlice {t el : TypeId} {nb : Nat} {m : Nat} {xs : List (Nat × Operand)} {vs : List (Nat × Value)} {z : Value} {cs : List Value} [hx : PartsL n e xs vs] [he : Elem P t el 1 nb z] [hz : One z] (hm : m ≤ 16777216)
    (hf : Instr.fill (fun i => some (i * 1, 1)) (Array.replicate m z) vs = some cs.toArray) {o : Oper} (ho : o.op = .buildSlice t m xs.toArray) (w : World) :
    (execOp (act n e).eval o).run P w = .ok (.value (.slice (some ⟨w.heap.size, 0, none⟩) m m)) (w.alloc (.cells cs.toArray el)) := by
  obtain ⟨i0, hi, hz0, hz1, hz2⟩ := info_parts he.info
  unfold execOp
  rw [ho]
  have h2 : (List.map (fun x : Nat × Operand => match x with | (i, x) => (i, (act n e).eval x)) xs) = vs := by rw [← hx.out]
  have h3 : ¬ (16777216 < m) := by omega
  have hzc : z.cells = #[z] := cells_one hz.out
  simp only [Nat.mul_one] at hf
  by_cases h0 : m = 0
  · subst h0
    have h5 : (Array.map (fun _ : Nat => (default : Value)) (Array.range 0)) = Array.replicate 0 z := by simp
    simp [Instr.buildSlice, run_underlying he.und, sizeOf, typeInfo, hi, hz1, newRow, h2]
    rw [h5, hf]
    simp
  · have h5 : Array.map (fun x => [z][x % 1]?.getD default) (Array.range m) = Array.replicate m z := by
      apply Array.ext_getElem?
      intro j
      by_cases hj : j < m <;> simp [hj, Nat.mod_one]
    simp [Instr.buildSlice, run_underlying he.und, sizeOf, typeInfo, hi, hz1, zeroValue, hz0, newRow, h2, h3, h0, hzc]
    rw [h5, hf]
    simp

/-- []T{..} -/
theorem sw_buildSlice {d : Nat} {t el : TypeId} {nb : Nat} {m : Nat} {xs : List (Nat × Operand)} {vs : List (Nat × Value)} {z : Value} {pos : String} {after : Array Edge} (cs : List Value) [hx : PartsL n e xs vs] [he : Elem P t el 1 nb z] [hz : One z] (hm : m ≤ 16777216)
    (hf : Instr.fill (fun i => some (i * 1, 1)) (Array.replicate m z) vs = some cs.toArray)
    (k : ∀ b, SW P ops Q n w0 rest ((d, .slice (some ⟨b, 0, none⟩) m m) :: e) ((b, pts b (.cells cs.toArray el (0, 0))) :: Rs)) :
    SW P ops Q n w0 ({ dst := some d, op := .buildSlice t m xs.toArray, type := ty, pos := pos, after := after, guard := none } :: rest) e Rs := by
  intro w hw
  refine wpM_value rfl (runp_buildSlice hm hf rfl w) ?_
  rw [actM_put]
  exact k w.heap.size _ (hw.new _)

/-! ### elements -/
/-- s[j], by a plain number -/
theorem sw_idx {d : Nat} {t et : TypeId} {x y : Operand} {b m c : Nat} {k : IntKind} {i : Int} {pos : String} {after : Array Edge} (j : Nat) [hx : Ev n e x (.slice (some ⟨b, 0, none⟩) m c)] [hy : Ev n e y (.int k i)] [hu : Und P t (.slice et)] [hs : SizeOf P et 1] (h : i = j ∧ j < m)
    (q : SW P ops Q n w0 rest ((d, .pointer (some ⟨b, j, none⟩)) :: e) Rs) : SW P ops Q n w0 ({ dst := some d, op := .indexAddr t x y, type := ty, pos := pos, after := after, guard := none } :: rest) e Rs := by
  refine sw_index (b := b) (off := 0) (m := m) (c := c) (sz := 1) (i := i) (k := k) (et := et) (by omega) ?_
  have : (0 + i.toNat * 1) = j := by omega
  rw [this]; exact q

/-- a cell of a row of one's own -/
theorem sw_loadAt {d : Nat} {t : TypeId} {x : Operand} {b j : Nat} {cs : List Value} {t' : TypeId} {fr : Nat × Nat} (v : Value) {pos : String} {after : Array Edge} [hx : Ev n e x (.pointer (some ⟨b, j, none⟩))] [hn : NonAgg P t] [tk : Take Rs b (pts b (.cells cs.toArray t' fr)) F] (hv : cs[j]? = some v)
    (q : SW P ops Q n w0 rest ((d, v) :: e) Rs) : SW P ops Q n w0 ({ dst := some d, op := .load t x, type := ty, pos := pos, after := after, guard := none } :: rest) e Rs :=
  sw_op (h := runop_load (a := ⟨b, j, none⟩) fun w hw => cell_of (hw.get tk) (by simpa using hv)) q
theorem sw_loadImm {d : Nat} {t : TypeId} {x : Operand} {b j : Nat} {cs : List Value} {t' : TypeId} {fr : Nat × Nat} (v : Value) {pos : String} {after : Array Edge} [hx : Ev n e x (.pointer (some ⟨b, j, none⟩))] [hn : NonAgg P t] [tk : Take Rs b (imm b (.cells cs.toArray t' fr)) F] (hv : cs[j]? = some v)
    (q : SW P ops Q n w0 rest ((d, v) :: e) Rs) : SW P ops Q n w0 ({ dst := some d, op := .load t x, type := ty, pos := pos, after := after, guard := none } :: rest) e Rs :=
  sw_op (h := runop_load (a := ⟨b, j, none⟩) fun w hw => cell_of (hw.get_imm tk) (by simpa using hv)) q
theorem sw_storeAt {t : TypeId} {x y : Operand} {b j : Nat} {cs : List Value} {t' : TypeId} {v : Value} {pos : String} {after : Array Edge} [hx : Ev n e x (.pointer (some ⟨b, j, none⟩))] [h2 : Ev n e y v] [hv : One v] [hs : SizeOf P t 1] [tk : Take Rs b (pts b (.cells cs.toArray t' (0, 0))) F] (hj : j < cs.length)
    (q : SW P ops Q n w0 rest e ((b, pts b (.cells (cs.set j v).toArray t' (0, 0))) :: F)) : SW P ops Q n w0 ({ dst := none, op := .store t x y, type := ty, pos := pos, after := after, guard := none } :: rest) e Rs := by
  intro w hw
  refine wpM_skip rfl (run_store_cell (b := b) (i := j) (v := v) rfl (hw.get tk) (by simpa using hj)) (q _ ?_)
  have h3 : cs.toArray.setIfInBounds j v = (cs.set j v).toArray := by simp
  rw [h3]
  exact hw.set tk _

/-! ### append -/
theorem run_call_append {x y : Operand} {u v : Value} {t t' : TypeId} {o : Oper} (ho : o.op = .call { callee := .builtin .append, args := [x, y].toArray, argTypes := [t, t'].toArray }) [hx : Ev n e x u] [hy : Ev n e y v] (w : World) {r : Value} {w' : World}
    (h : (Builtin.append_ #[t, t'] o.type #[u, v]).run P w = .ok r w') : (execOp (act n e).eval o).run P w = .ok (.value r) w' := by
  unfold execOp
  rw [ho]
  simp [resolve, invoke, builtin, hx.out, hy.out, h]

theorem setRow_eq {w : World} {b : Nat} {old cs : Array Value} {t : TypeId} {fr : Nat × Nat} (hb : w.heap[b]? = some (.cells old t fr)) : w.setRow b cs = { w with heap := w.heap.setIfInBounds b (.cells cs t fr) } := by
  unfold World.setRow
  congr 1
  obtain ⟨hlt, hg⟩ := Array.getElem?_eq_some_iff.1 hb
  apply Array.ext_getElem?
  intro j
  rw [Array.getElem?_modify, Array.getElem?_setIfInBounds]
  by_cases hj : b = j
  · subst hj; simp [hlt, hg]
  · simp [hj]

theorem zeroCells_len (z : Array Value) (n : Nat) (h : z.size = 1) : (Builtin.zeroCells z n).toList.length = n := by
  rw [Array.length_toList, size_zeroCells, h, Nat.mul_one]

/-- append(s, x...): onto a row of one's own -/
theorem sw_append {d : Nat} {t el : TypeId} {nb : Nat} {x y : Operand} {z : Value} {b m c m' c' : Nat} {a : Option Addr} {cs src : List Value} {pos : String} {after : Array Edge}
    [hx : Ev n e x (.slice (some ⟨b, 0, none⟩) m c)] [hy : Ev n e y (.slice a m' c')] [he : Elem P t el 1 nb z] [hz : One z] [tk : Take Rs b (pts b (.cells cs.toArray el (0, 0))) F]
    (hsrc : ∀ w, Sat w0 w Rs → ∀ j v, src[j]? = some v → ∃ ad, a = some ad ∧ w.cell? (ad.add j) = some v) (h1 : ∀ v ∈ src, v.oneCell' = true)
    (h : m ≤ c ∧ cs.length = c ∧ src.length = m' ∧ m + m' ≤ 9223372036854775807 ∧ (m + m') * nb ≤ 140737488355328)
    (k : ∀ b' r, SW P ops Q n w0 rest ((d, .slice (some ⟨b', 0, none⟩) (m + m') (m + m' + r.length)) :: e) ((b', pts b' (.cells (cs.take m ++ src ++ r).toArray el (0, 0))) :: F)) :
    SW P ops Q n w0 ({ dst := some d, op := .call { callee := .builtin .append, args := [x, y].toArray, argTypes := [t, t].toArray }, type := ty, pos := pos, after := after, guard := none } :: rest) e Rs := by
  intro w hw
  obtain ⟨h2, h3, h4, h5, h6⟩ := h
  obtain ⟨i0, hi, hz0, hz1, hz2⟩ := info_parts he.info
  have hb := hw.get tk
  have hzs : z.cells.size = 1 := by rw [cells_one hz.out]; rfl
  have hl1 : src.length = m' * i0.size := by rw [hz1, Nat.mul_one]; exact h4
  have hl2 : (cs.take m).length = m * i0.size := by rw [hz1, Nat.mul_one, List.length_take]; omega
  have holds : ∀ j v, (cs.take m)[j]? = some v → w.cell? (Addr.add ⟨b, 0, none⟩ j) = some v := fun j v hj => by
    refine cell_row hb ?_
    rw [Nat.zero_add]
    rw [List.getElem?_take] at hj
    split at hj
    · exact hj
    · cases hj
  by_cases hm : m' = 0
  · -- nothing comes
    subst hm
    have hs0 : src = [] := List.eq_nil_of_length_eq_zero (by omega)
    subst hs0
    have hf : ∀ ad : Addr, (Builtin.firstCells i0.size 0 (.slice (some ad) 0 c')).run P w = .ok #[] w := fun ad => run_firstCells_some w i0.size 0 ad 0 c' [] (by simp) (by simp)
    have hr : (Builtin.append_ #[t, t] ty #[.slice (some ⟨b, 0, none⟩) m c, .slice a 0 c']).run P w = .ok (.slice (some ⟨b, 0, none⟩) m c) w := by
      cases a with
      | none => simp [Builtin.append_, run_underlying he.und, sizeOf, typeInfo, hi, Builtin.lenOf, h2, run_firstCells_none, storeCells]
      | some ad => simp [Builtin.append_, run_underlying he.und, sizeOf, typeInfo, hi, Builtin.lenOf, h2, hf, storeCells]
    refine wpM_value rfl (run_call_append rfl w hr) ?_
    rw [actM_put]
    have h8 := k b (cs.drop m)
    have e1 : m + 0 + (cs.drop m).length = c := by rw [List.length_drop]; omega
    have e2 : cs.take m ++ [] ++ cs.drop m = cs := by simp
    rw [e1, e2] at h8
    exact h8 w (hw.ent tk.ent)
  · obtain ⟨ad, rfl⟩ : ∃ ad, a = some ad := by
      cases hs : src with
      | nil => rw [hs] at h4; simp at h4; omega
      | cons v r => obtain ⟨ad, h, _⟩ := hsrc w hw 0 v (by rw [hs]; rfl); exact ⟨ad, h⟩
    have hsrc' : ∀ j v, src[j]? = some v → w.cell? (ad.add j) = some v := fun j v hj => by
      obtain ⟨ad', h7, h8⟩ := hsrc w hw j v hj
      cases h7; exact h8
    by_cases hroom : m + m' ≤ c
    · have hr := run_append_room (P := P) w t ty el i0 he.und hi b m c cs.toArray hb ad m' c' src hl1 hsrc' h1 hroom (by rw [hz1]; simp; omega)
      refine wpM_value rfl (run_call_append rfl w hr) ?_
      rw [actM_put]
      have h8 := k b (cs.drop (m + m'))
      have e1 : m + m' + (cs.drop (m + m')).length = c := by rw [List.length_drop]; omega
      rw [e1] at h8
      have h9 := hw.set tk (.cells (cs.take m ++ src ++ cs.drop (m + m')).toArray el (0, 0))
      rw [hz1, Nat.mul_one, h4, setRow_eq hb]
      exact h8 _ h9
    · have hr := run_append_grow (P := P) w t ty el i0 z he.und hi hz0 ⟨b, 0, none⟩ m c (cs.take m) hl2 holds ad m' c' src hl1 hsrc' (by omega) (by omega) (growslice_fits (by omega) (by rw [hz2]; exact h6))
      refine wpM_value rfl (run_call_append rfl w hr) ?_
      rw [actM_put]
      have hge := grownCap_ge w (m + m') c el
      have h8 := k w.heap.size (Builtin.zeroCells z.cells (grownCap w (m + m') c el - (m + m'))).toList
      have e1 : m + m' + (Builtin.zeroCells z.cells (grownCap w (m + m') c el - (m + m'))).toList.length = grownCap w (m + m') c el := by rw [zeroCells_len _ _ hzs]; omega
      rw [e1] at h8
      have h9 := (((hw.draw (w.drawn + 1)).new (.cells ((cs.take m).toArray ++ src.toArray ++ Builtin.zeroCells z.cells (grownCap w (m + m') c el - (m + m'))) el (0, 0))).ent (Ent.cons _ (tk.ent.trans (Ent.drop _ _))))
      have e2 : (cs.take m).toArray ++ src.toArray ++ Builtin.zeroCells z.cells (grownCap w (m + m') c el - (m + m')) = (cs.take m ++ src ++ (Builtin.zeroCells z.cells (grownCap w (m + m') c el - (m + m'))).toList).toArray := by simp
      rw [e2] at h9 ⊢
      exact h8 _ h9

/-- append(s, x...), s being nil and something coming -/
theorem sw_append_nil {d : Nat} {t el : TypeId} {nb : Nat} {x y : Operand} {z : Value} {m' c' : Nat} {a : Option Addr} {src : List Value} {pos : String} {after : Array Edge}
    [hx : Ev n e x (.slice none 0 0)] [hy : Ev n e y (.slice a m' c')] [he : Elem P t el 1 nb z] [hz : One z]
    (hsrc : ∀ w, Sat w0 w Rs → ∀ j v, src[j]? = some v → ∃ ad, a = some ad ∧ w.cell? (ad.add j) = some v)
    (h : 0 < m' ∧ src.length = m' ∧ m' ≤ 9223372036854775807 ∧ m' * nb ≤ 281474976710656)
    (k : ∀ b' r, SW P ops Q n w0 rest ((d, .slice (some ⟨b', 0, none⟩) m' (m' + r.length)) :: e) ((b', pts b' (.cells (src ++ r).toArray el (0, 0))) :: Rs)) :
    SW P ops Q n w0 ({ dst := some d, op := .call { callee := .builtin .append, args := [x, y].toArray, argTypes := [t, t].toArray }, type := ty, pos := pos, after := after, guard := none } :: rest) e Rs := by
  intro w hw
  obtain ⟨h2, h4, h5, h6⟩ := h
  obtain ⟨i0, hi, hz0, hz1, hz2⟩ := info_parts he.info
  have hzs : z.cells.size = 1 := by rw [cells_one hz.out]; rfl
  have hl1 : src.length = m' * i0.size := by rw [hz1, Nat.mul_one]; exact h4
  obtain ⟨ad, rfl⟩ : ∃ ad, a = some ad := by
    cases hs : src with
    | nil => rw [hs] at h4; simp at h4; omega
    | cons v r => obtain ⟨ad, h, _⟩ := hsrc w hw 0 v (by rw [hs]; rfl); exact ⟨ad, h⟩
  have hsrc' : ∀ j v, src[j]? = some v → w.cell? (ad.add j) = some v := fun j v hj => by
    obtain ⟨ad', h7, h8⟩ := hsrc w hw j v hj
    cases h7; exact h8
  have hr := run_append_nil (P := P) w t ty el i0 z he.und hi hz0 ad m' c' src hl1 hsrc' h2 (by omega) (by rw [hz2]; exact h6)
  refine wpM_value rfl (run_call_append rfl w hr) ?_
  rw [actM_put]
  have hge := grownCap_ge w m' 0 el
  have h8 := k w.heap.size (Builtin.zeroCells z.cells (grownCap w m' 0 el - m')).toList
  have e1 : m' + (Builtin.zeroCells z.cells (grownCap w m' 0 el - m')).toList.length = grownCap w m' 0 el := by rw [zeroCells_len _ _ hzs]; omega
  rw [e1] at h8
  have h9 := (hw.draw (w.drawn + 1)).new (.cells (src.toArray ++ Builtin.zeroCells z.cells (grownCap w m' 0 el - m')) el (0, 0))
  have e2 : src.toArray ++ Builtin.zeroCells z.cells (grownCap w m' 0 el - m') = (src ++ (Builtin.zeroCells z.cells (grownCap w m' 0 el - m')).toList).toArray := by simp
  rw [e2] at h9 ⊢
  exact h8 _ h9

/-! ### s[l:h:m] -/
class EvO (n : Nat) (e : Env) (x : Option Operand) (v : outParam (Option Value)) : Prop where out : x.map (act n e).eval = v
instance EvO.none (n : Nat) (e : Env) : EvO n e none none := ⟨rfl⟩
instance EvO.some (n : Nat) (e : Env) (x : Operand) (v : Value) [h : Ev n e x v] : EvO n e (some x) (some v) := ⟨by simp [h.out]⟩

/-- what the bounds come to: (low, high, max) -/
class Bounds (len cap : Nat) (lo hi mx : Option Value) (l h m : outParam Int) (ok : outParam Prop) : Prop where
  out : ok → ∀ (P : Program) (w : World), (Instr.sliceBounds true len cap lo hi mx).run P w = .ok (l.toNat, h.toNat, m.toNat) w
instance Bounds.hi1 (len cap : Nat) (k : IntKind) (h : Int) : Bounds len cap none (some (.int k h)) none 0 h cap (0 ≤ h ∧ h ≤ cap) :=
  ⟨fun ⟨h1, h2⟩ P w => by simp [Instr.sliceBounds, run_sliceBound, h1, h2]⟩
instance Bounds.lo1 (len cap : Nat) (k : IntKind) (l : Int) : Bounds len cap (some (.int k l)) none none l len cap (0 ≤ l ∧ l ≤ len) :=
  ⟨fun ⟨h1, h2⟩ P w => by simp [Instr.sliceBounds, run_sliceBound, h1, h2]⟩
instance Bounds.lh (len cap : Nat) (k k' : IntKind) (l h : Int) : Bounds len cap (some (.int k l)) (some (.int k' h)) none l h cap (0 ≤ l ∧ l ≤ h ∧ h ≤ cap) :=
  ⟨fun ⟨h1, h2, h3⟩ P w => by
    have e1 : ((h.toNat : Nat) : Int) = h := Int.toNat_of_nonneg (by omega)
    have h4 := run_sliceBound (P := P) (w := w) k' h cap .sliceAcap (by omega) h3
    have h5 := run_sliceBound (P := P) (w := w) k l h.toNat .sliceB h1 (by omega)
    simp [Instr.sliceBounds, h4, h5]⟩
instance Bounds.hm (len cap : Nat) (k k' : IntKind) (h m : Int) : Bounds len cap none (some (.int k h)) (some (.int k' m)) 0 h m (0 ≤ h ∧ h ≤ m ∧ m ≤ cap) :=
  ⟨fun ⟨h1, h2, h3⟩ P w => by
    have e1 : ((m.toNat : Nat) : Int) = m := Int.toNat_of_nonneg (by omega)
    have h4 := run_sliceBound (P := P) (w := w) k' m cap .slice3Acap (by omega) h3
    have h5 := run_sliceBound (P := P) (w := w) k h m.toNat .slice3B h1 (by omega)
    simp [Instr.sliceBounds, h4, h5]⟩

theorem runop_slice {t el : TypeId} {nb : Nat} {x : Operand} {lo hi mx : Option Operand} {vl vh vm : Option Value} {b o len cap : Nat} {li hi' mi : Int} {ok : Prop} {z : Value} (l h m o' : Nat)
    [hx : Ev n e x (.slice (some ⟨b, o, none⟩) len cap)] [h1 : EvO n e lo vl] [h2 : EvO n e hi vh] [h3 : EvO n e mx vm] [he : Elem P t el 1 nb z] [hb : Bounds len cap vl vh vm li hi' mi ok] (hok : ok) (hl : li = l ∧ hi' = h ∧ mi = m ∧ (if m = l then o else o + l) = o') :
    RunOp P n w0 e Rs (.slice t x lo hi mx) ty (.slice (some ⟨b, o', none⟩) (h - l) (m - l)) := by
  obtain ⟨rfl, rfl, rfl, rfl⟩ := hl
  obtain ⟨i0, hi0, hz0, hz1, hz2⟩ := info_parts he.info
  refine ⟨fun op ho _ w _ => ?_⟩
  unfold execOp; rw [ho]
  have h4 := hb.out hok P w
  simp only [Int.toNat_natCast] at h4
  simp only [Instr.sliceAt, Instr.slice, Sem.run_bind, run_underlying he.und, Result.andThen_ok, hx.out, h1.out, h2.out, h3.out, h4, sizeOf, typeInfo]
  by_cases hm : m = l
  · simp [hm, hi0]
  · simp [hm, hi0, hz1, add_plain]

theorem sw_slice {d : Nat} {t el : TypeId} {nb : Nat} {x : Operand} {lo hi mx : Option Operand} {vl vh vm : Option Value} {b o len cap : Nat} {li hi' mi : Int} {ok : Prop} {z : Value} {pos : String} {after : Array Edge} (l h m o' : Nat)
    [hx : Ev n e x (.slice (some ⟨b, o, none⟩) len cap)] [h1 : EvO n e lo vl] [h2 : EvO n e hi vh] [h3 : EvO n e mx vm] [he : Elem P t el 1 nb z] [hb : Bounds len cap vl vh vm li hi' mi ok] (hok : ok) (hl : li = l ∧ hi' = h ∧ mi = m ∧ (if m = l then o else o + l) = o')
    (k : SW P ops Q n w0 rest ((d, .slice (some ⟨b, o', none⟩) (h - l) (m - l)) :: e) Rs) :
    SW P ops Q n w0 ({ dst := some d, op := .slice t x lo hi mx, type := ty, pos := pos, after := after, guard := none } :: rest) e Rs :=
  sw_op (h := runop_slice l h m o' hok hl) k

/-- s[l:h:m] of nil -/
theorem sw_slice_nil {d : Nat} {t el : TypeId} {nb : Nat} {x : Operand} {lo hi mx : Option Operand} {vl vh vm : Option Value} {li hi' mi : Int} {ok : Prop} {z : Value} {pos : String} {after : Array Edge}
    [hx : Ev n e x (.slice none 0 0)] [h1 : EvO n e lo vl] [h2 : EvO n e hi vh] [h3 : EvO n e mx vm] [he : Elem P t el 1 nb z] [hb : Bounds 0 0 vl vh vm li hi' mi ok] (hok : ok) (hl : li = 0 ∧ hi' = 0 ∧ mi = 0)
    (k : SW P ops Q n w0 rest ((d, .slice none 0 0) :: e) Rs) :
    SW P ops Q n w0 ({ dst := some d, op := .slice t x lo hi mx, type := ty, pos := pos, after := after, guard := none } :: rest) e Rs := by
  obtain ⟨rfl, rfl, rfl⟩ := hl
  obtain ⟨i0, hi0, hz0, hz1, hz2⟩ := info_parts he.info
  refine sw_op (h := ⟨fun op ho _ w _ => ?_⟩) k
  unfold execOp; rw [ho]
  have h4 := hb.out hok P w
  simp [Instr.sliceAt, Instr.slice, run_underlying he.und, hx.out, h1.out, h2.out, h3.out, h4, sizeOf, typeInfo, hi0]

/-! ### copy -/
/-- copy(dst, src) into a row of one's own: the first of 'src' -/
theorem sw_copy {d : Nat} {t t' el : TypeId} {nb : Nat} {x y : Operand} {z : Value} {b o dl dc sl sc : Nat} {a : Option Addr} {cs : List Value} (src : List Value) {pos : String} {after : Array Edge}
    [hx : Ev n e x (.slice (some ⟨b, o, none⟩) dl dc)] [hy : Ev n e y (.slice a sl sc)] [he : Elem P t el 1 nb z] [tk : Take Rs b (pts b (.cells cs.toArray el (0, 0))) F]
    (hsrc : ∀ w, Sat w0 w Rs → ∀ j v, src[j]? = some v → ∃ ad, a = some ad ∧ w.cell? (ad.add j) = some v) (h1 : ∀ v ∈ src, v.oneCell' = true) (h : src.length = min sl dl ∧ o + src.length ≤ cs.length)
    (k : SW P ops Q n w0 rest ((d, .int .i64 src.length) :: e) ((b, pts b (.cells (cs.take o ++ src ++ cs.drop (o + src.length)).toArray el (0, 0))) :: F)) :
    SW P ops Q n w0 ({ dst := some d, op := .call { callee := .builtin .copy, args := [x, y].toArray, argTypes := [t, t'].toArray }, type := ty, pos := pos, after := after, guard := none } :: rest) e Rs := by
  intro w hw
  obtain ⟨i0, hi0, hz0, hz1, hz2⟩ := info_parts he.info
  obtain ⟨h2, h3⟩ := h
  have hb := hw.get tk
  have hst := run_storeCells (P := P) (b := b) (off := o) (ty' := el) src 0 cs w h1 hb (by omega)
  have hld : (Builtin.firstCells 1 (min sl dl) (.slice a sl sc)).run P w = .ok src.toArray w := by
    cases a with
    | none =>
      cases hs : src with
      | nil => simp [Builtin.firstCells]
      | cons v r => obtain ⟨ad, h, _⟩ := hsrc w hw 0 v (by rw [hs]; rfl); cases h
    | some ad =>
      refine run_firstCells_some w 1 (min sl dl) ad sl sc src (by omega) fun j v hj => ?_
      obtain ⟨ad', h7, h8⟩ := hsrc w hw j v hj
      cases h7; exact h8
  have hr : ∀ op : Oper, op.op = .call { callee := .builtin .copy, args := [x, y].toArray, argTypes := [t, t'].toArray } → (execOp (act n e).eval op).run P w = .ok (.value (.int .i64 src.length)) { w with heap := w.heap.setIfInBounds b (.cells (cs.take (o + 0) ++ src ++ cs.drop (o + 0 + src.length)).toArray el (0, 0)) } := by
    intro op ho
    unfold execOp; rw [ho]
    simp only [resolve, invoke, builtin, List.map_toArray, List.map_cons, List.map_nil, hx.out, hy.out, Sem.run_bind, Sem.run_pure, Result.andThen_ok]
    have hld' : (Builtin.firstCells 1 (sl.min dl) (.slice a sl sc)).run P w = .ok src.toArray w := hld
    simp [Builtin.copy_, run_underlying he.und, Builtin.lenOf, sizeOf, typeInfo, hi0, hz1, hld', hst, goInt]
    rw [h2]
  refine wpM_value rfl (hr _ rfl) ?_
  rw [actM_put]
  simp only [Nat.add_zero]
  exact k _ (hw.set tk _)

/-! ### maps, all at once -/
/-- clear(m) -/
theorem sw_clear {t kt et : TypeId} {x : Operand} {k : IntKind} {b : Nat} {f : Int → Option Value} {pos : String} {after : Array Edge} [hx : Ev n e x (.map (some b))] [hu : Und P t (.map kt et)] [ht : Take Rs b (MapI k b f) F]
    (q : SW P ops Q n w0 rest e ((b, MapI k b mnil) :: F)) :
    SW P ops Q n w0 ({ dst := none, op := .call { callee := .builtin .clear, args := [x].toArray, argTypes := [t].toArray }, type := ty, pos := pos, after := after, guard := none } :: rest) e Rs := by
  intro w hw
  obtain ⟨L, clock, hg, hl, hb, hset⟩ := get_map hw ht
  have hr : ∀ o : Oper, o.op = .call { callee := .builtin .clear, args := [x].toArray, argTypes := [t].toArray } → (execOp (act n e).eval o).run P w = .ok (.value (.tuple #[])) { w with heap := w.heap.setIfInBounds b (.map (entries k []) clock) } := by
    intro o ho
    unfold execOp; rw [ho]
    have h2 : (getObj b).run P w = .ok (.map (entries k L) clock) w := by simp [getObj, Sem.run, hb]
    simp [resolve, invoke, builtin, hx.out, Builtin.clear_, run_und (t := t), h2, run_setObj_map hb, entries]
  exact wpM_value rfl (hr _ rfl) (q _ (hset [] clock mnil ⟨by simp, by simp, by simp⟩ rfl))

/-- nil, as a slice of no elements, is the same as nil -/
class SlNil (v : Value) (b : outParam Bool) : Prop where out : v = .slice none 0 0 ↔ b = true

/-! ### comparing with nil -/
section
variable {x y : Operand} {t t' : TypeId}
theorem run_equalIn_map (d : Nat) (p : Option Nat) (kt et : TypeId) [hu : Und P t (.map kt et)] (w : World) : (Op.equalIn (d + 1) t (.map p) (.map none)).run P w = .ok p.isNone w := by
  cases p <;> simp [Op.equalIn, run_und (t := t)]
theorem run_equalIn_slice (d : Nat) (a : Option Addr) (i j : Nat) (et : TypeId) [hu : Und P t (.slice et)] (w : World) : (Op.equalIn (d + 1) t (.slice a i j) (.slice none 0 0)).run P w = .ok a.isNone w := by
  cases a <;> simp [Op.equalIn, run_und (t := t)]
instance PureOp.meq (p : Option Nat) (kt et : TypeId) [hx : Ev n e x (.map p)] [hy : Ev n e y (.map none)] [hu : Und P t (.map kt et)] : PureOp P n e (.binOp .eql t x y t') ty (.bool p.isNone) :=
  ⟨fun o h1 _ w => run_eq_of h1 w (by simp [eqGuard]) (run_eql_of (.map p) (.map none) rfl fun d => run_equalIn_map d p kt et w)⟩
instance PureOp.mne (p : Option Nat) (kt et : TypeId) [hx : Ev n e x (.map p)] [hy : Ev n e y (.map none)] [hu : Und P t (.map kt et)] : PureOp P n e (.binOp .neq t x y t') ty (.bool (!p.isNone)) :=
  ⟨fun o h1 _ w => run_ne_of h1 w (by simp [eqGuard]) (run_neq_of (.map p) (.map none) rfl fun d => run_equalIn_map d p kt et w)⟩
instance PureOp.sleq (a : Option Addr) (i j : Nat) (et : TypeId) [hx : Ev n e x (.slice a i j)] [hy : Ev n e y (.slice none 0 0)] [hu : Und P t (.slice et)] : PureOp P n e (.binOp .eql t x y t') ty (.bool a.isNone) :=
  ⟨fun o h1 _ w => run_eq_of h1 w (by simp [eqGuard]) (run_eql_of (.slice a i j) (.slice none 0 0) rfl fun d => run_equalIn_slice d a i j et w)⟩
instance PureOp.slne (a : Option Addr) (i j : Nat) (et : TypeId) [hx : Ev n e x (.slice a i j)] [hy : Ev n e y (.slice none 0 0)] [hu : Und P t (.slice et)] : PureOp P n e (.binOp .neq t x y t') ty (.bool (!a.isNone)) :=
  ⟨fun o h1 _ w => run_ne_of h1 w (by simp [eqGuard]) (run_neq_of (.slice a i j) (.slice none 0 0) rfl fun d => run_equalIn_slice d a i j et w)⟩
end

/-! ### bytes to strings -/
/-- these bytes as a string -/
def strB (ns : List Int) : ByteArray := ns.foldl (fun r n => r.push (UInt8.ofNat n.toNat)) ByteArray.empty

theorem runop_bytes {s u el : TypeId} {x : Operand} {a : Option Addr} {m c : Nat} {ns : List Int} [hx : Ev n e x (.slice a m c)] [hs : Und P s (.slice el)] [he : Und P el (.int .u8)] [hu : Und P u .string]
    (hsrc : ∀ w, Sat w0 w Rs → ∀ j v, (ns.map (Value.int .u8))[j]? = some v → ∃ ad, a = some ad ∧ w.cell? (ad.add j) = some v) (hl : ns.length = m) : RunOp P n w0 e Rs (.convert s u x) ty (.string (strB ns)) :=
  ⟨fun o ho _ w hw => by
    unfold execOp; rw [ho]
    simp only [hx.out, Sem.run_bind, run_convert_bytes_string w s u el a m c hs.out he.out hu.out]
    cases a with
    | none =>
      have : ns = [] := by
        cases hn : ns with
        | nil => rfl
        | cons v r => obtain ⟨ad, h, _⟩ := hsrc w hw 0 (.int .u8 v) (by rw [hn]; rfl); cases h
      subst this
      simp [Conv.bytesToString, strB]
    | some ad =>
      have hld : (loadCells ad m).run P w = .ok (ns.map (Value.int .u8)).toArray w := by
        have := run_loadCells_list (P := P) w ad (ns.map (Value.int .u8)) fun j v hj => by
          obtain ⟨ad', h7, h8⟩ := hsrc w hw j v hj
          cases h7; exact h8
        rw [List.length_map, hl] at this
        exact this
      rw [run_bytesToString w ad m c ns hld]
      simp [strB]⟩

theorem sw_bytes {d : Nat} {s u el : TypeId} {x : Operand} {a : Option Addr} {m c : Nat} (ns : List Int) {pos : String} {after : Array Edge} [hx : Ev n e x (.slice a m c)] [hs : Und P s (.slice el)] [he : Und P el (.int .u8)] [hu : Und P u .string]
    (hsrc : ∀ w, Sat w0 w Rs → ∀ j v, (ns.map (Value.int .u8))[j]? = some v → ∃ ad, a = some ad ∧ w.cell? (ad.add j) = some v) (hl : ns.length = m)
    (q : SW P ops Q n w0 rest ((d, .string (strB ns)) :: e) Rs) : SW P ops Q n w0 ({ dst := some d, op := .convert s u x, type := ty, pos := pos, after := after, guard := none } :: rest) e Rs :=
  sw_op (h := runop_bytes hsrc hl) q

theorem strB_data : ∀ (ns : List Int) (s : ByteArray), (ns.foldl (fun r n => r.push (UInt8.ofNat n.toNat)) s).data.toList = s.data.toList ++ ns.map (fun n => UInt8.ofNat n.toNat)
  | [], s => by simp
  | n :: ns, s => by
    rw [List.foldl_cons, strB_data ns]
    simp [ByteArray.push]

theorem ba_loop (s : ByteArray) : ∀ (k i : Nat) (r : List UInt8), s.size - i = k → ByteArray.toList.loop s i r = r.reverse ++ s.data.toList.drop i
  | 0, i, r, h => by
    rw [ByteArray.toList.loop.eq_def, if_neg (by omega), List.drop_eq_nil_of_le (by have : s.data.toList.length = s.size := rfl; omega)]
    simp
  | k + 1, i, r, h => by
    have hlt : i < s.data.toList.length := by have : s.data.toList.length = s.size := rfl; omega
    rw [ByteArray.toList.loop.eq_def, if_pos (by omega), ba_loop s k (i + 1) _ (by omega)]
    have hg : s.get! i = s.data.toList[i] := by
      have : i < s.data.size := by simpa using hlt
      show s.data[i]! = _
      rw [getElem!_pos s.data i this]
      simp
    rw [hg, List.drop_eq_getElem_cons hlt]
    simp
theorem ba_toList (s : ByteArray) : s.toList = s.data.toList := by
  rw [ByteArray.toList.eq_1, ba_loop s _ 0 [] rfl]
  simp
theorem ba_inj {a b : ByteArray} (h : a.toList = b.toList) : a = b := by
  rw [ba_toList, ba_toList] at h
  cases a; cases b
  congr 1
  exact Array.ext' h

/-- two strings of bytes are the same, if the bytes are -/
theorem strB_inj {a b : List Int} (ha : ∀ x ∈ a, 0 ≤ x ∧ x ≤ 255) (hb : ∀ x ∈ b, 0 ≤ x ∧ x ≤ 255) : strB a = strB b ↔ a = b := by
  constructor
  · intro h
    have h1 := strB_data a ByteArray.empty
    have h2 := strB_data b ByteArray.empty
    have h3 : a.map (fun n => UInt8.ofNat n.toNat) = b.map (fun n => UInt8.ofNat n.toNat) := by
      have h4 : (strB a).data.toList = (strB b).data.toList := by rw [h]
      unfold strB at h4
      rw [h1, h2] at h4
      simpa using h4
    clear h h1 h2
    induction a generalizing b with
    | nil => cases b with
      | nil => rfl
      | cons y ys => simp at h3
    | cons x xs ih =>
      cases b with
      | nil => simp at h3
      | cons y ys =>
        simp only [List.map_cons, List.cons.injEq] at h3
        have hx := ha x (by simp)
        have hy := hb y (by simp)
        have e1 : x = y := by
          have h5 := congrArg UInt8.toNat h3.1
          simp only [UInt8.toNat_ofNat'] at h5
          omega
        rw [e1, ih (fun z hz => ha z (by simp [hz])) (fun z hz => hb z (by simp [hz])) h3.2]
  · rintro rfl; rfl

theorem strB_eq {a b : List Int} (ha : ∀ x ∈ a, 0 ≤ x ∧ x ≤ 255) (hb : ∀ x ∈ b, 0 ≤ x ∧ x ≤ 255) : ((strB a).toList == (strB b).toList) = decide (a = b) := by
  have h := strB_inj ha hb
  by_cases e : a = b
  · subst e; simp
  · have : strB a ≠ strB b := fun h' => e (h.1 h')
    simp only [e, decide_false]
    rw [beq_eq_false_iff_ne]
    exact fun h' => this (ba_inj h')

/-! ### holding for ever; opening what is put together -/
theorem sw_freeze {b : Nat} {o : Obj} [t : Take Rs b (pts b o) F] (k : SW P ops Q n w0 l e ((b, imm b o) :: F)) : SW P ops Q n w0 l e Rs := fun w hw => k w (hw.freeze t)
theorem sc_freeze {c : Code} {b : Nat} {o : Obj} [t : Take Rs b (pts b o) F] (k : SC P Q n w0 c e ((b, imm b o) :: F)) : SC P Q n w0 c e Rs := fun w hw => k w (hw.freeze t)
theorem sq_freeze {x : Exit} {b : Nat} {o : Obj} [t : Take Rs b (pts b o) F] (k : SQ Q n w0 x e ((b, imm b o) :: F)) : SQ Q n w0 x e Rs := fun w hw => k w (hw.freeze t)

/-- the part that lies for ever -/
def fpart (h : Hp) : Hp := fun k => match h k with
  | some (o, true) => some (o, true)
  | _ => none
theorem imm_fpart {b : Nat} {o : Obj} {h : Hp} (hi : imm b o h) : imm b o (fpart h) := by
  have : h b = some (o, true) := hi
  simp [imm, fpart, this]
/-- what follows from it, and speaks of what lies for ever alone, may be held beside it -/
theorem Ent.dup {k k' : Nat} {r r' : HProp} {F : List Res} (hp : ∀ h, r h → r' (fpart h)) : Ent ((k, r) :: F) ((k', r') :: (k, r) :: F) := by
  rintro h ⟨x, y, hd, rfl, hr, hF⟩
  refine ⟨fpart x, hjoin x y, ?_, ?_, hp x hr, x, y, hd, rfl, hr, hF⟩
  · intro k
    unfold fpart
    cases hx : x k with
    | none => left; rfl
    | some p =>
      obtain ⟨o, f⟩ := p
      cases f with
      | false => left; rfl
      | true => exact .inr (.inr ⟨o, rfl, by simp [hjoin, hx]⟩)
  · funext k
    unfold hjoin fpart
    cases hx : x k with
    | none => rfl
    | some p =>
      obtain ⟨o, f⟩ := p
      cases f <;> rfl
theorem Ent.dup_take {k k' : Nat} {r r' : HProp} [t : Take Rs k r F] (hp : ∀ h, r h → r' (fpart h)) : Ent Rs ((k', r') :: Rs) := t.ent.trans ((Ent.dup hp).trans (Ent.cons _ t.back))

/-- open a resource (by its key) -/
theorem sw_opn {α : Type} {k : Nat} {r : HProp} (φ : α → Prop) (p : α → HProp) [t : Take Rs k r F] (ho : ∀ x, r x → ∃ a, φ a ∧ p a x) (q : ∀ a, φ a → SW P ops Q n w0 l e ((k, p a) :: F)) : SW P ops Q n w0 l e Rs := by
  intro w hw
  obtain ⟨a, h1, h2⟩ := (hw.ent t.ent).opn ho
  exact q a h1 w h2
theorem sc_opn {α : Type} {c : Code} {k : Nat} {r : HProp} (φ : α → Prop) (p : α → HProp) [t : Take Rs k r F] (ho : ∀ x, r x → ∃ a, φ a ∧ p a x) (q : ∀ a, φ a → SC P Q n w0 c e ((k, p a) :: F)) : SC P Q n w0 c e Rs := by
  intro w hw
  obtain ⟨a, h1, h2⟩ := (hw.ent t.ent).opn ho
  exact q a h1 w h2
theorem sw_ent {Rs'' : List Res} (h : Ent Rs Rs'') (q : SW P ops Q n w0 l e Rs'') : SW P ops Q n w0 l e Rs := fun w hw => q w (hw.ent h)
theorem sc_ent {c : Code} {Rs'' : List Res} (h : Ent Rs Rs'') (q : SC P Q n w0 c e Rs'') : SC P Q n w0 c e Rs := fun w hw => q w (hw.ent h)
theorem sq_ent {x : Exit} {Rs'' : List Res} (h : Ent Rs Rs'') (q : SQ Q n w0 x e Rs'') : SQ Q n w0 x e Rs := fun w hw => q w (hw.ent h)
end
end Go.Gsl

namespace Go.Gsl
set_option linter.unusedVariables false

section
variable {P : Program} {ops : List Oper} {Q : Cont} {n : Nat} {w0 : World} {l rest : List Oper} {e : Env} {Rs Rs' F : List Res} {ty : TypeId}

theorem wrap_u64 {c : Int} (h : 0 ≤ c ∧ c ≤ 18446744073709551615) : IntKind.u64.wrap c = c := by
  have : IntKind.u64.wrap c = c % 18446744073709551616 := by simp [IntKind.wrap, IntKind.bits, IntKind.signed]
  omega
theorem wrap_u32 {c : Int} (h : 0 ≤ c ∧ c ≤ 4294967295) : IntKind.u32.wrap c = c := by
  have : IntKind.u32.wrap c = c % 4294967296 := by simp [IntKind.wrap, IntKind.bits, IntKind.signed]
  omega
theorem wrap_u16 {c : Int} (h : 0 ≤ c ∧ c ≤ 65535) : IntKind.u16.wrap c = c := by
  have : IntKind.u16.wrap c = c % 65536 := by simp [IntKind.wrap, IntKind.bits, IntKind.signed]
  omega
theorem wrap_u8 {c : Int} (h : 0 ≤ c ∧ c ≤ 255) : IntKind.u8.wrap c = c := by
  have : IntKind.u8.wrap c = c % 256 := by simp [IntKind.wrap, IntKind.bits, IntKind.signed]
  omega
/-- a number in its range stays -/
class InK (k : IntKind) (c : Int) (ok : outParam Prop) : Prop where out : ok → k.wrap c = c
instance InK.i64 (c : Int) : InK .i64 c (-9223372036854775808 ≤ c ∧ c ≤ 9223372036854775807) := ⟨IntWalk.i64_in c⟩
instance InK.u64 (c : Int) : InK .u64 c (0 ≤ c ∧ c ≤ 18446744073709551615) := ⟨wrap_u64⟩
instance InK.u32 (c : Int) : InK .u32 c (0 ≤ c ∧ c ≤ 4294967295) := ⟨wrap_u32⟩
instance InK.u16 (c : Int) : InK .u16 c (0 ≤ c ∧ c ≤ 65535) := ⟨wrap_u16⟩
instance InK.u8 (c : Int) : InK .u8 c (0 ≤ c ∧ c ≤ 255) := ⟨wrap_u8⟩
/-- an operation whose number stays in its range -/
theorem sw_in {d : Nat} {op : Op} {pos : String} {after : Array Edge} {k : IntKind} {c : Int} {ok : Prop} [h : PureOp P n e op ty (.int k (k.wrap c))] [hk : InK k c ok] (hc : ok)
    (q : SW P ops Q n w0 rest ((d, .int k c) :: e) Rs) : SW P ops Q n w0 ({ dst := some d, op := op, type := ty, pos := pos, after := after, guard := none } :: rest) e Rs :=
  sw_op_as (h := RunOp.pure op ty _) (by rw [hk.out hc]) q

def iand (k : IntKind) (a b : Int) : Int := k.wrap ((BitVec.ofInt k.bits a &&& BitVec.ofInt k.bits b).toNat)
def ior (k : IntKind) (a b : Int) : Int := k.wrap ((BitVec.ofInt k.bits a ||| BitVec.ofInt k.bits b).toNat)
def ixor (k : IntKind) (a b : Int) : Int := k.wrap ((BitVec.ofInt k.bits a ^^^ BitVec.ofInt k.bits b).toNat)
def iandNot (k : IntKind) (a b : Int) : Int := k.wrap ((BitVec.ofInt k.bits a &&& ~~~ BitVec.ofInt k.bits b).toNat)

section
variable {x y : Operand} {k k' : IntKind} {a b : Int} {t t' : TypeId}
instance PureOp.iand [Ev n e x (.int k a)] [Ev n e y (.int k b)] : PureOp P n e (.binOp .and t x y t') ty (.int k (iand k a b)) := ⟨fun o h1 _ w => run_binop_int h1 (by simp) w rfl⟩
instance PureOp.ior [Ev n e x (.int k a)] [Ev n e y (.int k b)] : PureOp P n e (.binOp .or t x y t') ty (.int k (ior k a b)) := ⟨fun o h1 _ w => run_binop_int h1 (by simp) w rfl⟩
instance PureOp.ixor [Ev n e x (.int k a)] [Ev n e y (.int k b)] : PureOp P n e (.binOp .xor t x y t') ty (.int k (ixor k a b)) := ⟨fun o h1 _ w => run_binop_int h1 (by simp) w rfl⟩
instance PureOp.iandNot [Ev n e x (.int k a)] [Ev n e y (.int k b)] : PureOp P n e (.binOp .andNot t x y t') ty (.int k (iandNot k a b)) := ⟨fun o h1 _ w => run_binop_int h1 (by simp) w rfl⟩

theorem run_shift {op : BinOp} {v : Value} {o : Oper} (h1 : o.op = .binOp op t x y t') [hx : Ev n e x (.int k a)] [hy : Ev n e y (.int k' b)] (hop : op = .shl ∨ op = .shr) (w : World)
    (hr : (Op.shift op k a k' b).run P w = .ok v w) : (execOp (act n e).eval o).run P w = .ok (.value v) w := by
  unfold execOp
  rw [h1]
  have hg : (eqGuard op t x y (.int k a) (.int k' b)).run P w = .ok () w := by
    unfold eqGuard; rcases hop with rfl | rfl <;> simp
  have hb : (binOp op t (.int k a) (.int k' b)).run P w = .ok v w := by
    rw [← hr]
    rcases hop with rfl | rfl <;> simp [binOp]
  simp [hx.out, hy.out, hg, hb]

theorem sw_shr {d : Nat} {pos : String} {after : Array Edge} [hx : Ev n e x (.int k a)] [hy : Ev n e y (.int k' b)] (hb : 0 ≤ b)
    (q : SW P ops Q n w0 rest ((d, .int k (a.fdiv (2 ^ min b.toNat k.bits))) :: e) Rs) : SW P ops Q n w0 ({ dst := some d, op := .binOp .shr t x y t', type := ty, pos := pos, after := after, guard := none } :: rest) e Rs :=
  sw_op (h := ⟨fun o h1 _ w _ => run_shift h1 (.inr rfl) w (by simp [Op.shift, show ¬ b < 0 by omega])⟩) q
theorem sw_shl {d : Nat} {pos : String} {after : Array Edge} [hx : Ev n e x (.int k a)] [hy : Ev n e y (.int k' b)] (hb : 0 ≤ b)
    (q : SW P ops Q n w0 rest ((d, .int k (k.wrap (a * 2 ^ min b.toNat k.bits))) :: e) Rs) : SW P ops Q n w0 ({ dst := some d, op := .binOp .shl t x y t', type := ty, pos := pos, after := after, guard := none } :: rest) e Rs :=
  sw_op (h := ⟨fun o h1 _ w _ => run_shift h1 (.inl rfl) w (by simp [Op.shift, show ¬ b < 0 by omega])⟩) q
end

theorem src_of_pts {b off : Nat} {src cs : List Value} {t : TypeId} {fr : Nat × Nat} [tk : Take Rs b (pts b (.cells cs.toArray t fr)) F] (h : ∀ j v, src[j]? = some v → cs[off + j]? = some v) : ∀ w, Sat w0 w Rs → ∀ j v, src[j]? = some v → ∃ ad, some (⟨b, off, none⟩ : Addr) = some ad ∧ w.cell? (ad.add j) = some v :=
  fun w hw j v hj => ⟨_, rfl, cell_row (hw.get tk) (h j v hj)⟩

/-- an element that a resource lets be read -/
theorem sw_load_rd {d : Nat} {t : TypeId} {x : Operand} {b o o' : Nat} {xs : List Value} {r : HProp} (k i : Nat) (v : Value) {pos : String} {after : Array Edge} [hx : Ev n e x (.pointer (some ⟨b, o', none⟩))] [hn : NonAgg P t] [tk : Take Rs k r F] (hr : Reads r (some ⟨b, o, none⟩) xs) (hv : xs[i]? = some v) (ho : o' = o + i)
    (q : SW P ops Q n w0 rest ((d, v) :: e) Rs) : SW P ops Q n w0 ({ dst := some d, op := .load t x, type := ty, pos := pos, after := after, guard := none } :: rest) e Rs :=
  sw_op (h := runop_load (a := ⟨b, o', none⟩) fun w hw => by
    obtain ⟨ad, h1, h2⟩ := hr.sat (k := k) hw i v hv
    cases h1
    rw [add_plain] at h2
    rw [ho]; exact h2) q

theorem runop_idx {t et : TypeId} {x y : Operand} {b m c : Nat} {k : IntKind} {i : Int} (j : Nat) [hx : Ev n e x (.slice (some ⟨b, 0, none⟩) m c)] [hy : Ev n e y (.int k i)] [hu : Und P t (.slice et)] [hs : SizeOf P et 1] (h : i = j ∧ j < m) :
    RunOp P n w0 e Rs (.indexAddr t x y) ty (.pointer (some ⟨b, j, none⟩)) := by
  have h1 : PureOp P n e (.indexAddr t x y) ty (.pointer (some ⟨b, 0 + i.toNat * 1, none⟩)) := pure_index (by omega)
  rw [show 0 + i.toNat * 1 = j by omega] at h1
  exact @RunOp.pure P n w0 e Rs _ _ _ h1

/-! ### bytealg.MakeNoZero -/
class Mnz (P : Program) (f : FuncId) (pt t el : outParam TypeId) : Prop where
  und : P.underlying t = some (.slice el)
  out : ∀ args w, (callFunc f args).run P w = ((Extern.BytealgMakeNoZero.makeNoZero #[pt] #[t] args).run P w).andThen fun v w' => .ok (.value v) w'

theorem sw_mnz {d : Nat} {f : FuncId} {pt t el : TypeId} {x : Operand} {ts : Array TypeId} {pos : String} {after : Array Edge} {i : Int} (m : Nat) [hm : Mnz P f pt t el] [hx : Ev n e x (.int .i64 i)] (hi : i = m) (h : m ≤ 281474976710656)
    (k : ∀ b (cs : List Value), m ≤ cs.length → SW P ops Q n w0 rest ((d, .slice (some ⟨b, 0, none⟩) m cs.length) :: e) ((b, pts b (.cells cs.toArray el (0, 0))) :: Rs)) :
    SW P ops Q n w0 ({ dst := some d, op := .call { callee := .value (.func f), args := [x].toArray, argTypes := ts }, type := ty, pos := pos, after := after, guard := none } :: rest) e Rs := by
  subst hi
  intro w hw
  obtain ⟨cs, hr, hge, _⟩ := Lib.run_makeNoZero (P := P) w #[pt] t el hm.und m h
  have h1 : (execOp (act n e).eval { dst := some d, op := .call { callee := .value (.func f), args := [x].toArray, argTypes := ts }, type := ty, pos := pos, after := after, guard := none }).run P w = .ok (.value (.slice (some ⟨w.heap.size, 0, none⟩) m cs.size)) (w.drew.drew.alloc (.cells cs el)) := by
    rw [run_call_func (vs := [.int .i64 m]) rfl (by simp [hx.out]), hm.out, hr]
    rfl
  refine wpM_value rfl h1 ?_
  rw [actM_put]
  have := k w.heap.size cs.toList (by simpa using hge)
  exact this _ (((hw.draw (w.drawn + 1)).draw (w.drawn + 1 + 1)).new (.cells cs el (0, 0)))

/-! ### one of two -/
def hor (A B : HProp) : HProp := fun h => A h ∨ B h
theorem sat_or {k : Nat} {A B : HProp} {w : World} (h : Sat w0 w ((k, hor A B) :: F)) : Sat w0 w ((k, A) :: F) ∨ Sat w0 w ((k, B) :: F) := by
  obtain ⟨h1, z, hf, x, y, hd, hj, hr, hF⟩ := h
  rcases hr with hr | hr
  · exact .inl ⟨h1, z, hf, x, y, hd, hj, hr, hF⟩
  · exact .inr ⟨h1, z, hf, x, y, hd, hj, hr, hF⟩
theorem sc_or {c : Code} (k : Nat) {A B : HProp} [t : Take Rs k (hor A B) F] (h1 : SC P Q n w0 c e ((k, A) :: F)) (h2 : SC P Q n w0 c e ((k, B) :: F)) : SC P Q n w0 c e Rs := fun w hw => by
  rcases sat_or (hw.ent t.ent) with h | h
  · exact h1 w h
  · exact h2 w h
theorem sw_or (k : Nat) {A B : HProp} [t : Take Rs k (hor A B) F] (h1 : SW P ops Q n w0 l e ((k, A) :: F)) (h2 : SW P ops Q n w0 l e ((k, B) :: F)) : SW P ops Q n w0 l e Rs := fun w hw => by
  rcases sat_or (hw.ent t.ent) with h | h
  · exact h1 w h
  · exact h2 w h
theorem sq_or {x : Exit} (k : Nat) {A B : HProp} [t : Take Rs k (hor A B) F] (h1 : SQ Q n w0 x e ((k, A) :: F)) (h2 : SQ Q n w0 x e ((k, B) :: F)) : SQ Q n w0 x e Rs := fun w hw => by
  rcases sat_or (hw.ent t.ent) with h | h
  · exact h1 w h
  · exact h2 w h
/-- a fact beside a resource -/
theorem sc_and {c : Code} (k : Nat) {p : Prop} {A : HProp} [t : Take Rs k (hand p A) F] (h : p → SC P Q n w0 c e ((k, A) :: F)) : SC P Q n w0 c e Rs := fun w hw => by
  obtain ⟨_, hp, h2⟩ := (hw.ent t.ent).opn (α := Unit) (φ := fun _ => p) (p := fun _ => A) fun y hy => ⟨(), hy⟩
  exact h hp w h2
theorem sq_and {x : Exit} (k : Nat) {p : Prop} {A : HProp} [t : Take Rs k (hand p A) F] (h : p → SQ Q n w0 x e ((k, A) :: F)) : SQ Q n w0 x e Rs := fun w hw => by
  obtain ⟨_, hp, h2⟩ := (hw.ent t.ent).opn (α := Unit) (φ := fun _ => p) (p := fun _ => A) fun y hy => ⟨(), hy⟩
  exact h hp w h2
theorem sw_and (k : Nat) {p : Prop} {A : HProp} [t : Take Rs k (hand p A) F] (h : p → SW P ops Q n w0 l e ((k, A) :: F)) : SW P ops Q n w0 l e Rs := fun w hw => by
  obtain ⟨_, hp, h2⟩ := (hw.ent t.ent).opn (α := Unit) (φ := fun _ => p) (p := fun _ => A) fun y hy => ⟨(), hy⟩
  exact h hp w h2
theorem sw_hall (k : Nat) {L : List Res} [t : Take Rs k (hall L) F] (h : SW P ops Q n w0 l e (L ++ F)) : SW P ops Q n w0 l e Rs := sw_ent (t.ent.trans (Ent.hall_open _ _ _)) h
theorem sw_ex {α : Type} (k : Nat) {A : α → HProp} [t : Take Rs k (hex A) F] (h : ∀ a, SW P ops Q n w0 l e ((k, A a) :: F)) : SW P ops Q n w0 l e Rs := fun w hw => by
  obtain ⟨a, _, h2⟩ := (hw.ent t.ent).opn (φ := fun _ => True) (p := A) fun y ⟨a, ha⟩ => ⟨a, trivial, ha⟩
  exact h a w h2
theorem Ent.or1 {k : Nat} {A B : HProp} {Rs : List Res} (h : Ent Rs ((k, A) :: F)) : Ent Rs ((k, hor A B) :: F) := h.trans (Ent.head fun _ x => .inl x)
theorem Ent.or2 {k : Nat} {A B : HProp} {Rs : List Res} (h : Ent Rs ((k, B) :: F)) : Ent Rs ((k, hor A B) :: F) := h.trans (Ent.head fun _ x => .inr x)
theorem Ent.and1 {k : Nat} {p : Prop} {A : HProp} {Rs : List Res} (hp : p) (h : Ent Rs ((k, A) :: F)) : Ent Rs ((k, hand p A) :: F) := h.trans (Ent.head fun _ x => ⟨hp, x⟩)
theorem Ent.ex1 {α : Type} {k : Nat} {A : α → HProp} {Rs : List Res} (a : α) (h : Ent Rs ((k, A a) :: F)) : Ent Rs ((k, hex A) :: F) := h.trans (Ent.head fun _ x => ⟨a, x⟩)
theorem Ent.hall1 {k : Nat} {L Rs : List Res} (h : Ent Rs (L ++ F)) : Ent Rs ((k, hall L) :: F) := h.trans (Ent.hall_close _ _ _)
theorem sc_hall {c : Code} (k : Nat) {L : List Res} [t : Take Rs k (hall L) F] (h : SC P Q n w0 c e (L ++ F)) : SC P Q n w0 c e Rs := sc_ent (t.ent.trans (Ent.hall_open _ _ _)) h
theorem sq_hall {x : Exit} (k : Nat) {L : List Res} [t : Take Rs k (hall L) F] (h : SQ Q n w0 x e (L ++ F)) : SQ Q n w0 x e Rs := sq_ent (t.ent.trans (Ent.hall_open _ _ _)) h
theorem sc_ex {α : Type} {c : Code} (k : Nat) {A : α → HProp} [t : Take Rs k (hex A) F] (h : ∀ a, SC P Q n w0 c e ((k, A a) :: F)) : SC P Q n w0 c e Rs := fun w hw => by
  obtain ⟨a, _, h2⟩ := (hw.ent t.ent).opn (φ := fun _ => True) (p := A) fun y ⟨a, ha⟩ => ⟨a, trivial, ha⟩
  exact h a w h2
theorem sq_ex {α : Type} {x : Exit} (k : Nat) {A : α → HProp} [t : Take Rs k (hex A) F] (h : ∀ a, SQ Q n w0 x e ((k, A a) :: F)) : SQ Q n w0 x e Rs := fun w hw => by
  obtain ⟨a, _, h2⟩ := (hw.ent t.ent).opn (φ := fun _ => True) (p := A) fun y ⟨a, ha⟩ => ⟨a, trivial, ha⟩
  exact h a w h2

/-- two of them as one -/
theorem Ent.join {k1 k2 : Nat} {A B C : HProp} (h : ∀ a b : Hp, hdisj a b → A a → B b → C (hjoin a b)) : Ent ((k1, A) :: (k2, B) :: F) ((k1, C) :: F) := by
  rintro x ⟨a, y, hd, rfl, hA, b, z, hd2, rfl, hB, hF⟩
  obtain ⟨h1, h2⟩ := (hdisj_join hd2).1 hd
  refine ⟨hjoin a b, z, (hdisj_join_l h1).2 ⟨h2, hd2⟩, (hjoin_assoc _ _ _).symm, h a b h1 hA hB, hF⟩
theorem imm_left {b : Nat} {o : Obj} {x y : Hp} (h : imm b o x) : imm b o (hjoin x y) := by
  have : x b = some (o, true) := h
  simp [imm, hjoin, this]
theorem imm_right {b : Nat} {o : Obj} {x y : Hp} (hd : hdisj x y) (h : imm b o y) : imm b o (hjoin x y) := by
  rw [hjoin_comm hd]; exact imm_left h
end
end Go.Gsl
