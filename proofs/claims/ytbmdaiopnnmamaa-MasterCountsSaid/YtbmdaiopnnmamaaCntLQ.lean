/- Which master counts behind a crash. -/
import Derived.Test.YtbmdaiopnnmamaaBackLQ
import Derived.Test.YtbmdaiopnnmamaaGM
namespace Go.Gsl
set_option linter.unusedVariables false
open Go.Proofs

theorem Ms.Ok.in {m : Ms} (h : m.Ok) : m.In := by
  obtain ⟨h1, h2, h3, h4, h5, h6, h7, h8⟩ := h
  unfold Stamp at *
  intro x hx
  simp only [Ms.l, List.mem_cons, List.not_mem_nil, or_false] at hx
  unfold I64
  rcases hx with rfl | rfl | rfl | rfl | rfl | rfl | rfl | rfl <;> omega
theorem Ms.Ok.chk {m : Ms} (h : m.Ok) : m.chk = 0 := by unfold Ms.chk; rw [if_pos h]

/-- a disk of three sectors on which all is sure -/
structure Base (s : Dk) : Prop where
  down : s.down = false
  len : s.sure.length = 3
  dirty : s.dirty = fun _ => none
/-- what a sector says is older than a master -/
def Older (x : Ms × Int) (m : Ms) : Prop := x.2 = 200 ∨ (x.2 = 0 ∧ x.1.seq < m.seq)
/-- a master counts on a disk -/
structure Cnt (s : Dk) (m : Ms) : Prop where
  base : Base s
  this : one (dkf s) 1 (m.seq % 2) = (m, 0)
  other : Older (one (dkf s) 1 (1 - m.seq % 2)) m

theorem base_looks {s : Dk} (h1 : s.down = false) (h2 : s.sure.length = 3) {i : Int} (hi : 0 ≤ i ∧ i < 3) : s.looks i = 0 := by
  unfold Dk.looks
  rw [h1, if_neg (by simp), if_neg (by omega)]
theorem one_eq {f g : Int → List Int × Int} {a i : Int} (h : f (a + i) = g (a + i)) : one f a i = one g a i := by unfold one; rw [h]
theorem one_sec {f : Int → List Int × Int} {a i : Int} {m : Ms} (hm : m.Ok) (hf : f (a + i) = (m.sec, 0)) (hp : m.place a = a + i) : one f a i = (m, 0) := by
  unfold one
  rw [hf, parse_sec hm.in hm.chk, if_neg (by simp), if_neg (by simp), if_neg (by simp [hp])]

theorem Cnt.read {s : Dk} {m : Ms} (h : Cnt s m) : readM (one (dkf s) 1 0) (one (dkf s) 1 1) = (m, 0) := by
  have h1 := h.this
  have h2 := h.other
  unfold Older at h2
  rcases (show m.seq % 2 = 0 ∨ m.seq % 2 = 1 by omega) with h0 | h0
  · rw [h0] at h1 h2
    simp only [Int.sub_zero] at h2
    rw [h1]
    unfold readM
    rw [if_neg (by simp), if_neg (by omega), if_neg (by simp only; omega), if_pos rfl]
  · rw [h0] at h1 h2
    simp only [Int.sub_self] at h2
    rw [h1]
    generalize one (dkf s) 1 0 = x at h2 ⊢
    have ha : ¬ (x.2 ≠ 0 ∧ x.2 ≠ 200) := by omega
    have hb : (m, (0 : Int)).2 = 0 ∧ (x.2 ≠ 0 ∨ x.1.seq < (m, (0 : Int)).1.seq) := ⟨rfl, by simp only; omega⟩
    unfold readM
    rw [if_neg ha, if_neg (by simp), if_pos hb]

/-- one sector was written -/
structure Wr (s s' : Dk) (p : Int) (xs : List Int) : Prop where
  down : s'.down = false
  len : s'.sure.length = 3
  now : ∀ i : Nat, i < 3 → s'.now i = if (i : Int) = p then xs else s.now i
theorem Wr.dkf {s s' : Dk} {p : Int} {xs : List Int} (h : Wr s s' p xs) (hs : s.down = false ∧ s.sure.length = 3) {i : Int} (hi : 0 ≤ i ∧ i < 3) : dkf s' i = if i = p then (xs, 0) else dkf s i := by
  obtain ⟨n, rfl⟩ : ∃ n : Nat, i = n := ⟨i.toNat, by omega⟩
  unfold Go.Gsl.dkf
  rw [h.now n (by omega), base_looks h.down h.len hi, base_looks hs.1 hs.2 hi]
  split <;> rfl
theorem Wr.cnt {s s' : Dk} {m : Ms} (hm : m.Ok) (h : Wr s s' (m.place 1) m.sec) (hs : s.down = false ∧ s.sure.length = 3) (hd : s'.dirty = fun _ => none) (ho : Older (one (Go.Gsl.dkf s) 1 (1 - m.seq % 2)) m) : Cnt s' m := by
  have hp : m.place 1 = 1 + m.seq % 2 := rfl
  refine ⟨⟨h.down, h.len, hd⟩, ?_, ?_⟩
  · refine one_sec hm ?_ hp
    rw [h.dkf hs (by omega), if_pos hp.symm]
  · have : one (Go.Gsl.dkf s') 1 (1 - m.seq % 2) = one (Go.Gsl.dkf s) 1 (1 - m.seq % 2) := one_eq (by
      rw [h.dkf hs (by omega), if_neg (by omega)])
    rw [this]
    exact ho
theorem wr_barred {s : Dk} (hs : s.down = false ∧ s.sure.length = 3) (p : Int) (xs : List Int) : Wr s (s.wrote p xs).barred p xs where
  down := hs.1
  len := by
    show (mergeS (s.wrote p xs).dirty s.sure).length = 3
    unfold mergeS; rw [List.length_mapIdx]; exact hs.2
  now := fun i hi => now_written i (by omega)

theorem MW.ok {s s' : Dk} {m : Ms} {e : Int} (hm : m.Ok) (hs : s.down = false ∧ s.sure.length = 3) (h : MW s 1 m s' e) :
    (s.fuse = 1 ∧ e = 6 ∧ ∃ ks, KeysD (s.wrote (m.place 1) m.sec).dirty ks ∧ s' = (s.wrote (m.place 1) m.sec).gone ks s.keep) ∨
    (s.fuse ≠ 1 ∧ (s.wrote (m.place 1) m.sec).fuse = 1 ∧ e = 6 ∧ ∃ ks, KeysD (s.wrote (m.place 1) m.sec).dirty ks ∧ s' = (s.wrote (m.place 1) m.sec).met.gone ks (s.wrote (m.place 1) m.sec).keep) ∨
    (s.fuse ≠ 1 ∧ (s.wrote (m.place 1) m.sec).fuse ≠ 1 ∧ e = 0 ∧ s' = (s.wrote (m.place 1) m.sec).barred) := by
  have hl : s.looks (m.place 1) = 0 := base_looks hs.1 hs.2 (by show 0 ≤ 1 + m.seq % 2 ∧ 1 + m.seq % 2 < 3; omega)
  have hc := hm.chk
  rcases h with ⟨h, _⟩ | ⟨_, h, _⟩ | ⟨_, _, h⟩ | ⟨_, _, h⟩ | ⟨_, _, h⟩
  · exact absurd hc h
  · exact absurd hl h
  · exact .inl h
  · exact .inr (.inl h)
  · exact .inr (.inr h)

/-- a write without a fuse -/
theorem cnt_write {s s' : Dk} {m : Ms} {e : Int} (hs : Base s) (hf : s.fuse = 0) (hm : m.Ok) (ho : Older (one (dkf s) 1 (1 - m.seq % 2)) m) (h : MW s 1 m s' e) : e = 0 ∧ Cnt s' m ∧ s'.fuse = 0 := by
  have hf2 : (s.wrote (m.place 1) m.sec).fuse = 0 := by
    show (if s.fuse = 0 then 0 else s.fuse - 1) = 0
    rw [if_pos hf]
  rcases h.ok hm ⟨hs.down, hs.len⟩ with ⟨h, _⟩ | ⟨_, h, _⟩ | ⟨_, _, rfl, rfl⟩
  · omega
  · omega
  · refine ⟨rfl, (wr_barred ⟨hs.down, hs.len⟩ _ _).cnt hm ⟨hs.down, hs.len⟩ rfl ho, ?_⟩
    show (if (s.wrote (m.place 1) m.sec).fuse = 0 then 0 else (s.wrote (m.place 1) m.sec).fuse - 1) = 0
    rw [if_pos hf2]
theorem Cnt.older {s : Dk} {m m' : Ms} (h : Cnt s m) (hq : m'.seq = m.seq + 1) : Older (one (dkf s) 1 (1 - m'.seq % 2)) m' := by
  have : 1 - m'.seq % 2 = m.seq % 2 := by omega
  rw [this, h.this]
  exact .inr ⟨rfl, by simp only; omega⟩

theorem keys_none {ks : List Int} (h : KeysD (fun _ => none) ks) : ks = [] := by
  cases ks with
  | nil => rfl
  | cons k ks =>
    have := (h.mem k).1 (by simp)
    simp at this
theorem keys_one {p : Int} {xs : List Int} {ks : List Int} (h : KeysD (fun j => if j = p then some xs else none) ks) : ks = [p] := by
  have h1 : ∀ i, i ∈ ks ↔ i = p := fun i => by
    rw [h.mem i]
    split
    · rename_i h; simp [h]
    · rename_i h; simp [h]
  cases ks with
  | nil => exact absurd ((h1 p).2 rfl) (by simp)
  | cons k ks =>
    have hk := (h1 k).1 (by simp)
    subst hk
    cases ks with
    | nil => rfl
    | cons k' ks =>
      have hk' := (h1 k').1 (by simp)
      have := h.nodup
      subst hk'
      simp at this
/-- what is there when the power has gone at one write and come back -/
theorem gone_one {s : Dk} (hs : Base s) {p : Int} (hp : 0 ≤ p ∧ p < 3) {xs : List Int} {ks : List Int} {bs : List Bool} (s1 : Dk) (h1 : s1.dirty = fun j => if j = p then some xs else none) (h2 : s1.sure = s.sure) (hk : KeysD s1.dirty ks) :
    Wr s (s1.gone ks bs).up p xs ∨ (∀ i : Nat, (s1.gone ks bs).up.now i = s.now i) := by
  rw [h1] at hk
  have := keys_one hk
  subst this
  have hsn : ∀ i : Nat, s.now i = (s.sure[i]?).getD [] := fun i => by
    unfold Dk.now
    rw [hs.dirty]
    rfl
  have hgn : ∀ i : Nat, (s1.gone [p] bs).up.now i = ((goS s1.dirty [p] bs s.sure)[i]?).getD [] := fun i => by
    show ((goS s1.dirty [p] bs s1.sure)[i]?).getD [] = _
    rw [h2]
  cases bs with
  | nil => exact .inr fun i => by rw [hgn, hsn]; rfl
  | cons b bs =>
    cases b with
    | false => exact .inr fun i => by rw [hgn, hsn]; cases bs <;> rfl
    | true =>
      have hg : goS s1.dirty [p] (true :: bs) s.sure = s.sure.set p.toNat xs := by
        have e1 : (s1.dirty p).getD [] = xs := by rw [h1]; simp
        show goS s1.dirty [] bs (if true = true then s.sure.set p.toNat ((s1.dirty p).getD []) else s.sure) = _
        rw [e1]
        cases bs <;> rfl
      refine .inl ⟨rfl, ?_, fun i hi => ?_⟩
      · show (goS s1.dirty [p] (true :: bs) s1.sure).length = 3
        rw [h2, hg, List.length_set]; exact hs.len
      · rw [hgn, hg, hsn, List.getElem?_set]
        by_cases hip : (i : Int) = p
        · rw [if_pos (by omega), if_pos hip, if_pos (by rw [hs.len]; omega)]; rfl
        · rw [if_neg (by omega), if_neg hip]

/-- the last write, a crash, the power back: which master counts -/
theorem cnt_end {s s' : Dk} {m m' : Ms} {e : Int} {k : Int} {bs : List Bool} (h : Cnt s m) (hk : 0 ≤ k ∧ k < 4) (hm : m.Ok) (hm' : m'.Ok) (hq : m'.seq = m.seq + 1) (hw : MW (s.fused k bs) 1 m' s' e) :
    (e = 0 ∧ k ≠ 1 ∧ k ≠ 2 ∧ s'.looks 0 = 0 ∧ ∀ ks, KeysD s'.dirty ks → readM (one (dkf (s'.gone ks bs).up) 1 0) (one (dkf (s'.gone ks bs).up) 1 1) = (m', 0)) ∨
    (e = 6 ∧ (k = 1 ∨ k = 2) ∧ (readM (one (dkf s'.up) 1 0) (one (dkf s'.up) 1 1) = (m', 0) ∨ readM (one (dkf s'.up) 1 0) (one (dkf s'.up) 1 1) = (m, 0))) := by
  have hb := h.base
  have hs : s.down = false ∧ s.sure.length = 3 := ⟨hb.down, hb.len⟩
  have hpl : 0 ≤ m'.place 1 ∧ m'.place 1 < 3 := by show 0 ≤ 1 + m'.seq % 2 ∧ 1 + m'.seq % 2 < 3; omega
  have ho := h.older hq
  have hf2 : ((s.fused k bs).wrote (m'.place 1) m'.sec).fuse = if k = 0 then 0 else k - 1 := rfl
  have hd1 : ((s.fused k bs).wrote (m'.place 1) m'.sec).dirty = fun j => if j = m'.place 1 then some m'.sec else none := by
    funext j
    show (if j = m'.place 1 then some m'.sec else s.dirty j) = _
    rw [hb.dirty]
  have both : ∀ s1 : Dk, s1.dirty = (fun j => if j = m'.place 1 then some m'.sec else none) → s1.sure = s.sure → ∀ ks bs, KeysD s1.dirty ks →
      readM (one (dkf (s1.gone ks bs).up) 1 0) (one (dkf (s1.gone ks bs).up) 1 1) = (m', 0) ∨ readM (one (dkf (s1.gone ks bs).up) 1 0) (one (dkf (s1.gone ks bs).up) 1 1) = (m, 0) := by
    intro s1 h1 h2 ks bs hks
    rcases gone_one hb hpl (bs := bs) s1 h1 h2 hks with hw | hw
    · exact .inl (hw.cnt hm' hs rfl ho).read
    · refine .inr ?_
      have hl : (s1.gone ks bs).up.sure.length = 3 := by
        show (goS s1.dirty ks bs s1.sure).length = 3
        rw [goS_len, h2]; exact hb.len
      have he : ∀ i : Int, 0 ≤ i ∧ i < 3 → dkf (s1.gone ks bs).up i = dkf s i := fun i hi => by
        obtain ⟨n, rfl⟩ : ∃ n : Nat, i = n := ⟨i.toNat, by omega⟩
        unfold dkf
        rw [hw n, base_looks rfl hl hi, base_looks hs.1 hs.2 hi]
      rw [one_eq (g := dkf s) (he _ (by omega)), one_eq (g := dkf s) (he _ (by omega))]
      exact h.read
  rcases hw.ok (s := s.fused k bs) hm' hs with ⟨h1, rfl, ks, hks, rfl⟩ | ⟨h1, h2, rfl, ks, hks, rfl⟩ | ⟨h1, h2, rfl, rfl⟩
  · exact .inr ⟨rfl, .inl h1, both _ hd1 rfl _ _ hks⟩
  · have h1' : k ≠ 1 := h1
    rw [hf2] at h2
    refine .inr ⟨rfl, .inr ?_, both _ hd1 rfl _ _ hks⟩
    split at h2 <;> omega
  · have h1' : k ≠ 1 := h1
    rw [hf2] at h2
    have hwr := wr_barred (s := s.fused k bs) hs (m'.place 1) m'.sec
    have hcn : Cnt ((s.fused k bs).wrote (m'.place 1) m'.sec).barred m' := hwr.cnt hm' hs rfl (by
      have : one (dkf (s.fused k bs)) 1 (1 - m'.seq % 2) = one (dkf s) 1 (1 - m'.seq % 2) := one_eq rfl
      rw [this]; exact ho)
    refine .inl ⟨rfl, h1', ?_, base_looks hcn.base.down hcn.base.len (by omega), fun ks hks => ?_⟩
    · intro hk2
      subst hk2
      exact h2 (by rw [if_neg (by omega)]; rfl)
    · have := keys_none hks
      subst this
      have he : dkf (((s.fused k bs).wrote (m'.place 1) m'.sec).barred.gone [] bs).up = dkf ((s.fused k bs).wrote (m'.place 1) m'.sec).barred := by
        funext i
        unfold dkf
        have e1 : (((s.fused k bs).wrote (m'.place 1) m'.sec).barred.gone [] bs).up.now i = ((s.fused k bs).wrote (m'.place 1) m'.sec).barred.now i := rfl
        have e2 : (((s.fused k bs).wrote (m'.place 1) m'.sec).barred.gone [] bs).up.looks i = ((s.fused k bs).wrote (m'.place 1) m'.sec).barred.looks i := by
          unfold Dk.looks
          rw [show (((s.fused k bs).wrote (m'.place 1) m'.sec).barred.gone [] bs).up.down = false from rfl, hcn.base.down]
          rfl
        rw [e1, e2]
      rw [he]
      exact hcn.read
end Go.Gsl
