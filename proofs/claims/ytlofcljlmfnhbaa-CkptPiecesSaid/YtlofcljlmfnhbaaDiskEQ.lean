/- Same; writes and barriers, case by case. -/
import Derived.Test.YtlofcljlmfnhbaaDiskOQ
import Derived.Test.YtlofcljlmfnhbaaGE
namespace Go.Gsl
set_option linter.unusedVariables false
open Go.Proofs

/-- the same bytes -/
def Dk.same (s t : Dk) : Prop := s.sure.length = t.sure.length ∧ ∀ i : Nat, i < s.sure.length → s.now i = t.now i

set_option maxHeartbeats 400000 in
theorem dSame_ok (p1 p2 : Nat) (s t : Dk) : Spec Try.prog 28 [.pointer (some ⟨p1, 0, none⟩), .pointer (some ⟨p2, 0, none⟩)] [p1, p2] [DISK p1 s, DISK p2 t]
    fun F v Rs' => ∃ b : Bool, (b = true ↔ s.same t) ∧ v = .bool b ∧ Rs' = (p1, DISK p1 s) :: (p2, DISK p2 t) :: F := by
  refine spec_of Try.func28 rfl Try.ntmps28 rfl ?_
  intro w0 F
  refine DISK.sc (p := p1) (s := s) fun x hx => ?_
  unfold DISKl
  refine DISK.sc (p := p2) (s := t) fun y hy => ?_
  unfold DISKl
  repeat' (first | with_reducible (first | refine go1 ?_ | refine sct ?_ | refine scf ?_ | refine sgr ?_) | fail)
  refine sc_lin ([(p1, pts p1 (drow x.bS x.vs.length (x.vs.length + x.r.length) x.m s.down s.calls s.fuse x.kv)), (p2, pts p2 (drow y.bS y.vs.length (y.vs.length + y.r.length) y.m t.down t.calls t.fuse y.kv))]) (llp 0 (lle 1 (llp 2 (llp 3 (lle 4 (llp 5 (llp 6 (llp 7 (llp 8 (llp 9 (llp 10 (llp 11 (llp 12 (llp 13 (llp 14 (llp 15 (llp 16 (llp 17 (llp 18 ll0))))))))))))))))))) (by kernel_rfl) rfl (by kernel_rfl) ?_
  all_goals refine go1l ?_
  all_goals refine sl_eff ?_
  all_goals (repeat' (first | with_reducible (first | refine go1 ?_ | refine sct ?_ | refine scf ?_ | refine sgr ?_) | ((with_reducible refine sw_call (dNone_raw _ _ _ _ _ _ _ _ _) ?_); rintro _ _ ⟨rfl, rfl⟩) | with_reducible refine sl_back ?_ | fail))
  all_goals refine go1l ?_
  all_goals (first | refine go1l ?_ | ((refine sl_split 8 (fun h => ?_) (fun h => ?_)) <;> (try (exfalso; first | contradiction | omega | exact h Iff.rfl)) <;> refine go1l ?_))
  all_goals refine sl_eff ?_
  all_goals (repeat' (first | with_reducible (first | refine go1 ?_ | refine sct ?_ | refine scf ?_ | refine sgr ?_) | ((with_reducible refine sw_call (dNone_raw _ _ _ _ _ _ _ _ _) ?_); rintro _ _ ⟨rfl, rfl⟩) | with_reducible refine sl_back ?_ | fail))
  all_goals (first | refine go1l ?_ | ((refine sl_split 8 (fun h => ?_) (fun h => ?_)) <;> (try (exfalso; first | contradiction | omega | exact h Iff.rfl)) <;> refine go1l ?_))
  all_goals refine go1l ?_
  all_goals (first | refine go1l ?_ | ((refine sl_split 12 (fun h => ?_) (fun h => ?_)) <;> (try (exfalso; first | contradiction | omega | exact h Iff.rfl)) <;> refine go1l ?_))
  all_goals (first | refine go1l ?_ | ((refine sl_split 12 (fun h => ?_) (fun h => ?_)) <;> (try (exfalso; first | contradiction | omega | exact h Iff.rfl)) <;> refine go1l ?_))
  all_goals (first | refine go1l ?_ | ((refine sl_split 12 (fun h => ?_) (fun h => ?_)) <;> (try (exfalso; first | contradiction | omega | exact h Iff.rfl)) <;> refine go1l ?_))
  all_goals (first | refine go1l ?_ | ((refine sl_split 12 (fun h => ?_) (fun h => ?_)) <;> (try (exfalso; first | contradiction | omega | exact h Iff.rfl)) <;> refine go1l ?_))
  all_goals (first | refine go1l ?_ | ((refine sl_split 12 (fun h => ?_) (fun h => ?_)) <;> (try (exfalso; first | contradiction | omega | exact h Iff.rfl)) <;> refine go1l ?_))
  all_goals (first | refine go1l ?_ | ((refine sl_split 12 (fun h => ?_) (fun h => ?_)) <;> (try (exfalso; first | contradiction | omega | exact h Iff.rfl)) <;> refine go1l ?_))
  all_goals (first | refine go1l ?_ | ((refine sl_split 12 (fun h => ?_) (fun h => ?_)) <;> (try (exfalso; first | contradiction | omega | exact h Iff.rfl)) <;> refine go1l ?_))
  all_goals (first | refine go1l ?_ | ((refine sl_split 12 (fun h => ?_) (fun h => ?_)) <;> (try (exfalso; first | contradiction | omega | exact h Iff.rfl)) <;> refine go1l ?_))
  all_goals (first | refine go1l ?_ | ((refine sl_split 12 (fun h => ?_) (fun h => ?_)) <;> (try (exfalso; first | contradiction | omega | exact h Iff.rfl)) <;> refine go1l ?_))
  all_goals (first | refine go1l ?_ | ((refine sl_split 12 (fun h => ?_) (fun h => ?_)) <;> (try (exfalso; first | contradiction | omega | exact h Iff.rfl)) <;> refine go1l ?_))
  all_goals (first | refine go1l ?_ | ((refine sl_split 12 (fun h => ?_) (fun h => ?_)) <;> (try (exfalso; first | contradiction | omega | exact h Iff.rfl)) <;> refine go1l ?_))
  all_goals (first | refine go1l ?_ | ((refine sl_split 12 (fun h => ?_) (fun h => ?_)) <;> (try (exfalso; first | contradiction | omega | exact h Iff.rfl)) <;> refine go1l ?_))
  all_goals refine sl_done ?_
  have hlx := hx.len
  have hly := hy.len
  have hE : Ent ((p1, pts p1 (drow x.bS x.vs.length (x.vs.length + x.r.length) x.m s.down s.calls s.fuse x.kv)) :: (x.bS, pts x.bS (.cells (x.vs ++ x.r).toArray 67 (0, 0))) :: (x.m, MapI .i64 x.m x.f) :: (x.q, DPers x.vs x.f x.kv s) ::
      (p2, pts p2 (drow y.bS y.vs.length (y.vs.length + y.r.length) y.m t.down t.calls t.fuse y.kv)) :: (y.bS, pts y.bS (.cells (y.vs ++ y.r).toArray 67 (0, 0))) :: (y.m, MapI .i64 y.m y.f) :: (y.q, DPers y.vs y.f y.kv t) :: F) ((p1, DISK p1 s) :: (p2, DISK p2 t) :: F) :=
    Ent.trans (DISK.close hx) (Ent.cons _ (DISK.close hy))
  repeat' (first | with_reducible (first | refine go1 ?_ | refine sct ?_ | refine scf ?_ | refine sgr ?_) | (with_reducible refine sc_cond (fun h => ?_) (fun h => ?_)) <;> (try (exfalso; first | contradiction | omega | exact h Iff.rfl)) | fail)
  · refine sq_ret1 Try.results28 ?_
    refine ⟨_, ⟨false, ⟨fun h => (by cases h), fun h2 => absurd h2.1 (by omega)⟩, rfl, rfl⟩, Ent.trans ?_ hE⟩
    repeat' (first | with_reducible exact Ent.refl _ | with_reducible refine Ent.take_eq ?_ ?_ | rfl | with_reducible refine Ent.trans (Ent.drop _ _) ?_)
  · refine sc_ent (Rs'' := (p1, DISK p1 s) :: (p2, DISK p2 t) :: F) (Ent.trans ?_ hE) ?_
    · repeat' (first | with_reducible exact Ent.refl _ | with_reducible refine Ent.take_eq ?_ ?_ | rfl | with_reducible refine Ent.trans (Ent.drop _ _) ?_)
    rw [hlx]
    refine DISK.scwf (p := p1) (s := s) fun hws => ?_
    refine DISK.scwf (p := p2) (s := t) fun hwt => ?_
    refine sc_loop (α := { i : Nat // i ≤ s.sure.length ∧ ∀ j : Nat, j < i → s.now j = t.now j }) (fun i => [(0, .pointer (some ⟨p1, 0, none⟩)), (1, .pointer (some ⟨p2, 0, none⟩)), (29, .int .i64 s.sure.length), (30, .int .i64 i.1)])
      (fun _ => (p1, DISK p1 s) :: (p2, DISK p2 t) :: F) (fun i => s.sure.length - i.1) ⟨0, Nat.zero_le _, fun j hj => by omega⟩ ?_ ?_ ?_
    · repeat' (first | exact says_nil | refine says_cons rfl ?_ | refine says_cons (by simp) ?_)
    · repeat' (first | with_reducible exact Ent.refl _ | with_reducible refine Ent.take_eq ?_ ?_ | rfl | with_reducible refine Ent.trans (Ent.drop _ _) ?_)
    rintro ⟨i, hi, hall⟩ e
    simp only [List.cons_append, List.nil_append]
    repeat' (first | with_reducible (first | refine go1 ?_ | refine sct ?_ | refine scf ?_ | refine sgr ?_) | (with_reducible refine sc_cond (fun h => ?_) (fun h => ?_)) <;> (try (exfalso; first | contradiction | omega | exact h Iff.rfl)) | fail)
    · have hlt : i < s.sure.length := by omega
      have hn2 := hws.n2
      have w1 := Dk.now_wf hws (a := i) (by omega) (by omega)
      have w2 := Dk.now_wf hwt (a := i) (by omega) (by omega)
      refine sw_call (dNow_ok p1 s i (by omega) (by omega)) ?_
      rintro v1 _ ⟨q1, rfl⟩
      repeat' (first | with_reducible (first | refine go1 ?_ | refine sct ?_ | refine scf ?_ | refine sgr ?_) | fail)
      refine sw_call (dNow_ok p2 t i (by omega) (by omega)) ?_
      rintro v2 _ ⟨q2, rfl⟩
      refine sw_opn (k := q1) (φ := fun c : Nat × List Value => v1 = .slice (some ⟨c.1, 0, none⟩) (s.now i).length ((s.now i).length + c.2.length)) (p := fun c => imm c.1 (.cells ((s.now i).map (Value.int .u8) ++ c.2).toArray 5 (0, 0))) (by rintro y ⟨b, r, hv, hi⟩; exact ⟨(b, r), hv, hi⟩) ?_
      rintro ⟨b1, r1⟩ rfl
      refine sw_opn (k := q2) (φ := fun c : Nat × List Value => v2 = .slice (some ⟨c.1, 0, none⟩) (t.now i).length ((t.now i).length + c.2.length)) (p := fun c => imm c.1 (.cells ((t.now i).map (Value.int .u8) ++ c.2).toArray 5 (0, 0))) (by rintro y ⟨b, r, hv, hi⟩; exact ⟨(b, r), hv, hi⟩) ?_
      rintro ⟨b2, r2⟩ rfl
      refine sw_call (eqB_ok q1 q2 _ _ b1 b2 _ _ _ _ (s.now i) (t.now i) reads_irow reads_irow rfl rfl (by rw [w1.len]; omega)) ?_
      rintro _ _ ⟨rfl, rfl⟩
      repeat' (first | with_reducible refine sw_in (by omega) ?_ | with_reducible (first | refine go1 ?_ | refine sct ?_ | refine scf ?_ | refine sgr ?_) | (with_reducible refine sc_cond (fun h => ?_) (fun h => ?_)) <;> (try (exfalso; first | contradiction | omega | exact h Iff.rfl)) | fail)
      · refine sq_ret1 Try.results28 ?_
        refine ⟨_, ⟨false, ⟨fun h => (by cases h), fun h2 => absurd (h2.2 i hlt) h⟩, rfl, rfl⟩, ?_⟩
        repeat' (first | with_reducible exact Ent.refl _ | with_reducible refine Ent.take_eq ?_ ?_ | rfl | with_reducible refine Ent.trans (Ent.drop _ _) ?_)
      · refine sq_round ⟨i + 1, hlt, fun j hj => ?_⟩ ?_ ?_ ?_
        · rcases Nat.lt_or_ge j i with h2 | h2
          · exact hall j h2
          · obtain rfl : j = i := by omega
            exact Decidable.not_not.1 h
        · show s.sure.length - (i + 1) < s.sure.length - i
          omega
        · repeat' (first | exact says_nil | refine says_cons rfl ?_ | refine says_cons (by simp) ?_)
        · repeat' (first | with_reducible exact Ent.refl _ | with_reducible refine Ent.take_eq ?_ ?_ | rfl | with_reducible refine Ent.trans (Ent.drop _ _) ?_)
    · refine sq_ret1 Try.results28 ?_
      exact ⟨_, ⟨true, ⟨fun _ => ⟨by omega, fun j hj => hall j (by omega)⟩, fun _ => rfl⟩, rfl, rfl⟩, by repeat' (first | with_reducible exact Ent.refl _ | with_reducible refine Ent.take_eq ?_ ?_ | rfl | with_reducible refine Ent.trans (Ent.drop _ _) ?_)⟩

theorem dWrite_ok0 (p k : Nat) (s : Dk) (r : HProp) (ad : Option Addr) (c : Nat) (a : Int) (xs : List Int) (hb : s.looks a = 0) (hx : SecWf xs) (hne : ad ≠ none) (hr : Reads r ad (xs.map (Value.int .u8))) (hf : s.fuse ≠ 1) : Spec Try.prog 36 [.pointer (some ⟨p, 0, none⟩), .int .i64 a, .slice ad 512 c] [p, k] [DISK p s, r]
    fun F v Rs' => v = .int .i64 0 ∧ Rs' = (p, DISK p (s.wrote a xs)) :: (k, r) :: F :=
  (dWrite_ok p k s r ad c a xs hb hx hne hr).mono fun F v Rs' h => by
    rcases h with ⟨_, h⟩ | ⟨h, _⟩
    · exact h
    · exact absurd h hf
theorem dWrite_ok1 (p k : Nat) (s : Dk) (r : HProp) (ad : Option Addr) (c : Nat) (a : Int) (xs : List Int) (hb : s.looks a = 0) (hx : SecWf xs) (hne : ad ≠ none) (hr : Reads r ad (xs.map (Value.int .u8))) (hf : s.fuse = 1) : Spec Try.prog 36 [.pointer (some ⟨p, 0, none⟩), .int .i64 a, .slice ad 512 c] [p, k] [DISK p s, r]
    fun F v Rs' => ∃ ks, KeysD (s.wrote a xs).dirty ks ∧ v = .int .i64 6 ∧ Rs' = (p, DISK p ((s.wrote a xs).gone ks s.keep)) :: (k, r) :: F :=
  (dWrite_ok p k s r ad c a xs hb hx hne hr).mono fun F v Rs' h => by
    rcases h with ⟨h, _⟩ | ⟨_, h1, ks, h2, h3⟩
    · exact absurd hf h
    · exact ⟨ks, h2, h1, h3⟩
theorem dBarrier_ok0 (p : Nat) (s : Dk) (hb : s.looks 0 = 0) (hf : s.fuse ≠ 1) : Spec Try.prog 38 [.pointer (some ⟨p, 0, none⟩)] [p] [DISK p s]
    fun F v Rs' => v = .int .i64 0 ∧ Rs' = (p, DISK p s.barred) :: F :=
  (dBarrier_ok p s hb).mono fun F v Rs' h => by
    rcases h with ⟨_, h⟩ | ⟨h, _⟩
    · exact h
    · exact absurd h hf
theorem dBarrier_ok1 (p : Nat) (s : Dk) (hb : s.looks 0 = 0) (hf : s.fuse = 1) : Spec Try.prog 38 [.pointer (some ⟨p, 0, none⟩)] [p] [DISK p s]
    fun F v Rs' => ∃ ks, KeysD s.dirty ks ∧ v = .int .i64 6 ∧ Rs' = (p, DISK p (s.met.gone ks s.keep)) :: F :=
  (dBarrier_ok p s hb).mono fun F v Rs' h => by
    rcases h with ⟨h, _⟩ | ⟨_, h1, ks, h2, h3⟩
    · exact absurd hf h
    · exact ⟨ks, h2, h1, h3⟩
end Go.Gsl
