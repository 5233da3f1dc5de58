/- The checkpoints' statements: the walks from what is handed in. -/
import Derived.Test.YtlofcljlmfnhbaaCkb1Q
import Derived.Test.YtlofcljlmfnhbaaGT
import Derived.Test.YtlofcljlmfnhbaaGK
namespace Go.Gsl
set_option linter.unusedVariables false
open Go.Proofs Go.RowKit Go.ChangeShapes Go.WideShapes
theorem l19bU8 : Try.prog.bytesOf 5 = 1 := by kernel_rfl
set_option maxRecDepth 100000 in
/-- bytes that came in, bounded -/
theorem read_bytesy_sz {H : Type} {enc : TypeId × Value → H} {W : World} {base : Nat} {ts : List TypeId} {ds : List (DataW H)} {j : Nat} {v : Value} {d : DataW H} {p : List MemPlace} (hz : (DataW.weightsEach Try.prog ts ds).all (· ≤ reachBytes) = true) (ht : ts[j]? = some 67) (hd : ds[j]? = some d)
    (ho : Value.okWide Try.prog W .any base 67 v) (h : DataW.Trod enc Try.prog W 0 (fun _ => true) true 67 v d p) : ∃ bs, RdBx (ro W) v bs ∧ Byt bs ∧ bs.length ≤ 140737488355328 := by
  obtain ⟨bs, h1, h2⟩ := read_bytesx ho h
  refine ⟨bs, h1, h2, ?_⟩
  obtain ⟨a0, len, cap, rfl⟩ := okWide_slice Try.underlying67 ho
  obtain ⟨fuel, hf⟩ := h
  obtain ⟨xs, _, h3, hs⟩ := cell_slice (α := Int) (Value.int .u8) (fun _ => True) Try.underlying67 l2cU8 (fun fuel c y h => by obtain ⟨b, hb, _⟩ := cell_int Try.underlying5 h; exact ⟨b, hb, trivial⟩) (by simpa [Value.cells] using hf)
  have hlen : bs.length = xs.length := by
    obtain ⟨a, c, e1, _⟩ := h1
    obtain ⟨a', c', e2, _⟩ := h3
    rw [e1] at e2
    simp only [Value.slice.injEq, List.length_map] at e2
    exact e2.2.1
  rcases hs with rfl | ⟨es, sp, he, hl⟩
  · rw [hlen]; simp
  · simp only at he
    subst he
    have h4 := sized_slice hz ht hd Try.underlying67
    rw [l19bU8] at h4
    have h5 := reachBytes_lt
    omega
theorem back19_walk {W : World} {v cv kv : Value} {l : List Sp} {bs : List Int} {keep : List Bool} (hv : RdS (ro W) v l) (hb : SpsB l) (hl : l.length ≤ 9223372036854775807) (hcv : RdBx (ro W) cv bs) (hcb : Byt bs) (hcl : bs.length ≤ 140737488355328) (hk : RdW W kv (keep.map Value.bool)) (hkl : keep.length ≤ 140737488355328) :
    Calls Try.prog 6 #[v, cv, kv] W fun e W' => e = .returned (.bool true) ∧ Below W.heap.size W W' :=
  call_of_spec W ((l19Back_ok 0 (ro W) v cv kv l bs keep hv hb hl hcv hcb (by omega) hk.bools (by omega)).mono fun F v Rs' h => ⟨h.1, F, h.2⟩)
end Go.Gsl
