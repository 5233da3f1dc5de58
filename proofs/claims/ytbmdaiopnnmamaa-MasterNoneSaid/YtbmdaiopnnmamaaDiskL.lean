/- Plain laws of the disk. -/
import Derived.Test.YtbmdaiopnnmamaaDisk7
namespace Go.Gsl
set_option linter.unusedVariables false
open Go.Proofs

theorem sorted_unique : ∀ (xs ys : List Int), xs.Nodup → ys.Nodup → xs.Pairwise (· ≤ ·) → ys.Pairwise (· ≤ ·) → (∀ i, i ∈ xs ↔ i ∈ ys) → xs = ys
  | [], [], _, _, _, _, _ => rfl
  | [], y :: ys, _, _, _, _, h => by have := (h y).2 (by simp); simp at this
  | x :: xs, [], _, _, _, _, h => by have := (h x).1 (by simp); simp at this
  | x :: xs, y :: ys, n1, n2, p1, p2, h => by
    rw [List.nodup_cons] at n1 n2
    rw [List.pairwise_cons] at p1 p2
    have hxy : x = y := by
      have h1 : x ∈ y :: ys := (h x).1 (by simp)
      have h2 : y ∈ x :: xs := (h y).2 (by simp)
      rcases List.mem_cons.1 h1 with e | h1
      · exact e
      rcases List.mem_cons.1 h2 with e | h2
      · exact e.symm
      have := p1.1 y h2
      have := p2.1 x h1
      omega
    subst hxy
    rw [sorted_unique xs ys n1.2 n2.2 p1.2 p2.2 fun i => ?_]
    constructor
    · intro hi
      rcases List.mem_cons.1 ((h i).1 (by simp [hi])) with e | h1
      · subst e; exact absurd hi n1.1
      · exact h1
    · intro hi
      rcases List.mem_cons.1 ((h i).2 (by simp [hi])) with e | h1
      · subst e; exact absurd hi n2.1
      · exact h1

theorem KeysD.unique {g : Int → Option (List Int)} {ks ks' : List Int} (h : KeysD g ks) (h' : KeysD g ks') : ks = ks' :=
  sorted_unique ks ks' h.nodup h'.nodup h.le h'.le fun i => by rw [h.mem i, h'.mem i]

theorem goS_not (g : Int → Option (List Int)) : ∀ (ks : List Int) (bs : List Bool) (ss : List (List Int)) (j : Nat), (∀ k ∈ ks, k.toNat ≠ j) → (goS g ks bs ss)[j]? = ss[j]?
  | [], _, _, _, _ => rfl
  | _ :: _, [], _, _, _ => rfl
  | k :: ks, b :: bs, ss, j, h => by
    rw [goS, goS_not g ks bs _ j fun k hk => h k (by simp [hk])]
    split
    · rw [List.getElem?_set, if_neg (h k (by simp))]
    · rfl

theorem goS_get (g : Int → Option (List Int)) : ∀ (ks : List Int) (bs : List Bool) (ss : List (List Int)) (n : Nat) (k : Int), ks.Nodup → (∀ k ∈ ks, 0 ≤ k ∧ k.toNat < ss.length) → ks[n]? = some k →
    (goS g ks bs ss)[k.toNat]? = if bs[n]? = some true then some ((g k).getD []) else ss[k.toNat]?
  | [], _, _, _, _, _, _, h => by simp at h
  | _ :: _, [], _, _, _, _, _, _ => by simp [goS]
  | k0 :: ks, b :: bs, ss, n, k, hn, h0, h => by
    rw [List.nodup_cons] at hn
    rw [goS]
    have hlen : (if b = true then ss.set k0.toNat ((g k0).getD []) else ss).length = ss.length := by split <;> simp
    have hk0 := h0 k0 (by simp)
    cases n with
    | zero =>
      simp only [List.getElem?_cons_zero, Option.some.injEq] at h
      subst h
      rw [goS_not g ks bs _ _ fun k hk e => hn.1 (by have := h0 k (by simp [hk]); have e2 : k = k0 := by omega
                                                     rw [← e2]; exact hk)]
      simp only [List.getElem?_cons_zero, Option.some.injEq]
      split
      · rw [List.getElem?_set, if_pos rfl, if_pos hk0.2]
      · rfl
    | succ n =>
      simp only [List.getElem?_cons_succ] at h
      have hmem : k ∈ ks := List.mem_of_getElem? h
      have hk := h0 k (by simp [hmem])
      rw [goS_get g ks bs _ n k hn.2 (fun j hj => by rw [hlen]; exact h0 j (by simp [hj])) h]
      simp only [List.getElem?_cons_succ]
      split
      · rfl
      · split
        · rw [List.getElem?_set, if_neg]
          intro e
          have e2 : k0 = k := by omega
          subst e2
          exact hn.1 hmem
        · rfl

/-- how far a walk over the sectors has come in the list of the dirty ones -/
structure AtK (ks : List Int) (n : Nat) (i : Int) : Prop where
  lt : ∀ k ∈ ks.take n, k < i
  ge : ∀ k ∈ ks.drop n, i ≤ k
theorem AtK.zero {ks : List Int} (h : ∀ k ∈ ks, 0 ≤ k) : AtK ks 0 0 := ⟨by simp, by simpa using h⟩
theorem AtK.hit {ks : List Int} {n : Nat} {i : Int} (h : AtK ks n i) (hn : ks.Nodup) (hp : ks.Pairwise (· ≤ ·)) (hi : i ∈ ks) : ks[n]? = some i ∧ AtK ks (n + 1) (i + 1) := by
  have hd : i ∈ ks.drop n := by
    rw [← List.take_append_drop n ks] at hi
    rcases List.mem_append.1 hi with h1 | h1
    · have := h.lt i h1; omega
    · exact h1
  have hlt : n < ks.length := by
    rcases Nat.lt_or_ge n ks.length with h1 | h1
    · exact h1
    · rw [List.drop_eq_nil_of_le h1] at hd; simp at hd
  have hde : ks.drop n = ks[n] :: ks.drop (n + 1) := List.drop_eq_getElem_cons hlt
  have hpd : (ks.drop n).Pairwise (· ≤ ·) := hp.sublist (List.drop_sublist n ks)
  have hnd : (ks.drop n).Nodup := hn.sublist (List.drop_sublist n ks)
  have h1 := h.ge ks[n] (by rw [hde]; exact List.mem_cons_self)
  rw [hde, List.pairwise_cons] at hpd
  rw [hde, List.nodup_cons] at hnd
  rw [hde] at hd
  have he : ks[n] = i := by
    rcases List.mem_cons.1 hd with e | h2
    · exact e.symm
    · have := hpd.1 i h2; omega
  refine ⟨by rw [List.getElem?_eq_getElem hlt, he], ?_, ?_⟩
  · intro k hk
    rw [List.take_add_one, List.getElem?_eq_getElem hlt, he] at hk
    rcases List.mem_append.1 hk with h2 | h2
    · have := h.lt k h2; omega
    · simp at h2; omega
  · intro k hk
    have h2 := h.ge k (by rw [hde]; exact List.mem_cons_of_mem _ hk)
    have h3 : k ≠ i := fun e => hnd.1 (by rw [he, ← e]; exact hk)
    omega
theorem AtK.miss {ks : List Int} {n : Nat} {i : Int} (h : AtK ks n i) (hi : i ∉ ks) : AtK ks n (i + 1) where
  lt := fun k hk => by have := h.lt k hk; omega
  ge := fun k hk => by
    have h1 := h.ge k hk
    have h2 : k ≠ i := fun e => hi (e ▸ List.mem_of_mem_drop hk)
    omega

/-- what has come to stand in a sector, once the power is gone -/
theorem Dk.gone_hit {s : Dk} {ks : List Int} {bs : List Bool} (hw : s.Wf) (hk : KeysD s.dirty ks) {n : Nat} {i : Int} (h : ks[n]? = some i) :
    (s.gone ks bs).sure[i.toNat]? = if bs[n]? = some true then some ((s.dirty i).getD []) else s.sure[i.toNat]? :=
  goS_get s.dirty ks bs s.sure n i hk.nodup (fun k hm => by
    obtain ⟨xs, hx⟩ := Option.isSome_iff_exists.1 ((hk.mem k).1 hm)
    have := hw.dat k xs hx
    omega) h
theorem Dk.gone_miss {s : Dk} {ks : List Int} {bs : List Bool} (hw : s.Wf) (hk : KeysD s.dirty ks) {i : Int} (h0 : 0 ≤ i) (h : i ∉ ks) : (s.gone ks bs).sure[i.toNat]? = s.sure[i.toNat]? :=
  goS_not s.dirty ks bs s.sure i.toNat fun k hm e => by
    obtain ⟨xs, hx⟩ := Option.isSome_iff_exists.1 ((hk.mem k).1 hm)
    have := hw.dat k xs hx
    exact h (by have e2 : i = k := by omega
                rw [e2]; exact hm)
end Go.Gsl
