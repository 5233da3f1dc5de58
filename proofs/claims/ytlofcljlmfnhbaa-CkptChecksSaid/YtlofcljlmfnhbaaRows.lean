/-
  No cell of these rows narrows 'for every input' (looked for: loops, veiled, ifaces, maps, wideKeys, modest, calm, conditions, laid).
  DERIVED. THE GIVEN ROWS OF THIS SEAT. 5 by the template 'for every input the law returns true; each argument reads behind the call as it read before'; 0 by the template 'total and deterministic' (their statements: YtlofcljlmfnhbaaTotals.lean).
  GIVEN WITH THE SEED: the statements are not yours to turn. If you find one false, say at which input.
  Laid BY PROGRAM, IN A SANDBOX (cutbox-rows.mjs): the forced cells as the released guide's own fill.sh prints them over the translation 525921b5e429a6fd… (all of the seat's roots in one cut). By AI agents, Wed Nov 11 2026. No macro, syntax, notation, axiom, sorry.
-/
import Derived.Test.YtlofcljlmfnhbaaChecked
import GoSem.Claim
import GoSem.ClaimJoined
import GoSem.ClaimMapViews
import Derived.JoinedTies
import Derived.KernelRfl
namespace Go.Proofs.Ytlofcljlmfnhbaa
/- THE CELL 'sum', in the pinned program and in every row, IS THE sha256 OF THE DUMP (.gsa) THAT YtlofcljlmfnhbaaProg.lean LOADS. Nothing in Lean hashes anything: it is a label: what it is worth is what the hold of that sum in a sandbox is worth. -/
noncomputable def Try.pinned : Pinned := { name := "ytlofcljlmfnhbaa", sum := "525921b5e429a6fd263c35524917561aa9ac740077ca4a05cbf18c792713ca49", checked := Try.checked }
namespace Rows
def none {H : Type} : Left H := { results := [], args := [] }

/-- 'cressetlaw19.CkptNone': WHATEVER THE INPUT: true; the input reads as it did. -/
def ckptNoneSpec : ChangeSpec := { name := "ckptNone", fn := fun _ => fun
  | [d1, d2] => { results := [.lit (.bool true)], args := [d1, d2] }
  | _ => none }
def ckptNoneRow : OpenClaim := { program := "ytlofcljlmfnhbaa", sum := "525921b5e429a6fd263c35524917561aa9ac740077ca4a05cbf18c792713ca49", func := "cresset/cressetlaw19.CkptNone", spec := "ckptNone", unfollowed := true, recurses := true, apart := false }
def CkptNoneSaid : Prop := ckptNoneRow.holds Try.pinned (OpenSpec.ofChange ckptNoneSpec)

/-- ITS FALSE NEIGHBOUR: 'it returns false'. Refute it at one input. -/
def ckptNoneWrong : ChangeSpec := { name := "ckptNone", fn := fun _ => fun
  | [d1, d2] => { results := [.lit (.bool false)], args := [d1, d2] }
  | _ => none }
def CkptNoneWrongFalsely : Prop := ckptNoneRow.holds Try.pinned (OpenSpec.ofChange ckptNoneWrong)

/-- 'cressetlaw19.CkptChecks': WHATEVER THE INPUT: true; the input reads as it did. -/
def ckptChecksSpec : ChangeSpec := { name := "ckptChecks", fn := fun _ => fun
  | [d1, d2, d3] => { results := [.lit (.bool true)], args := [d1, d2, d3] }
  | _ => none }
def ckptChecksRow : OpenClaim := { program := "ytlofcljlmfnhbaa", sum := "525921b5e429a6fd263c35524917561aa9ac740077ca4a05cbf18c792713ca49", func := "cresset/cressetlaw19.CkptChecks", spec := "ckptChecks", unfollowed := true, recurses := true, apart := false }
def CkptChecksSaid : Prop := ckptChecksRow.holds Try.pinned (OpenSpec.ofChange ckptChecksSpec)

/-- ITS FALSE NEIGHBOUR: 'it returns false'. Refute it at one input. -/
def ckptChecksWrong : ChangeSpec := { name := "ckptChecks", fn := fun _ => fun
  | [d1, d2, d3] => { results := [.lit (.bool false)], args := [d1, d2, d3] }
  | _ => none }
def CkptChecksWrongFalsely : Prop := ckptChecksRow.holds Try.pinned (OpenSpec.ofChange ckptChecksWrong)

/-- 'cressetlaw19.CkptOther': WHATEVER THE INPUT: true; the input reads as it did. -/
def ckptOtherSpec : ChangeSpec := { name := "ckptOther", fn := fun _ => fun
  | [d1, d2, d3] => { results := [.lit (.bool true)], args := [d1, d2, d3] }
  | _ => none }
def ckptOtherRow : OpenClaim := { program := "ytlofcljlmfnhbaa", sum := "525921b5e429a6fd263c35524917561aa9ac740077ca4a05cbf18c792713ca49", func := "cresset/cressetlaw19.CkptOther", spec := "ckptOther", unfollowed := true, recurses := true, apart := false }
def CkptOtherSaid : Prop := ckptOtherRow.holds Try.pinned (OpenSpec.ofChange ckptOtherSpec)

/-- ITS FALSE NEIGHBOUR: 'it returns false'. Refute it at one input. -/
def ckptOtherWrong : ChangeSpec := { name := "ckptOther", fn := fun _ => fun
  | [d1, d2, d3] => { results := [.lit (.bool false)], args := [d1, d2, d3] }
  | _ => none }
def CkptOtherWrongFalsely : Prop := ckptOtherRow.holds Try.pinned (OpenSpec.ofChange ckptOtherWrong)

/-- 'cressetlaw19.CkptBack': WHATEVER THE INPUT: true; the input reads as it did. -/
def ckptBackSpec : ChangeSpec := { name := "ckptBack", fn := fun _ => fun
  | [d1, d2, d3] => { results := [.lit (.bool true)], args := [d1, d2, d3] }
  | _ => none }
def ckptBackRow : OpenClaim := { program := "ytlofcljlmfnhbaa", sum := "525921b5e429a6fd263c35524917561aa9ac740077ca4a05cbf18c792713ca49", func := "cresset/cressetlaw19.CkptBack", spec := "ckptBack", unfollowed := true, recurses := true, apart := false }
def CkptBackSaid : Prop := ckptBackRow.holds Try.pinned (OpenSpec.ofChange ckptBackSpec)

/-- ITS FALSE NEIGHBOUR: 'it returns false'. Refute it at one input. -/
def ckptBackWrong : ChangeSpec := { name := "ckptBack", fn := fun _ => fun
  | [d1, d2, d3] => { results := [.lit (.bool false)], args := [d1, d2, d3] }
  | _ => none }
def CkptBackWrongFalsely : Prop := ckptBackRow.holds Try.pinned (OpenSpec.ofChange ckptBackWrong)

/-- 'cressetlaw19.CkptPieces': WHATEVER THE INPUT: true; the input reads as it did. -/
def ckptPiecesSpec : ChangeSpec := { name := "ckptPieces", fn := fun _ => fun
  | [d1, d2] => { results := [.lit (.bool true)], args := [d1, d2] }
  | _ => none }
def ckptPiecesRow : OpenClaim := { program := "ytlofcljlmfnhbaa", sum := "525921b5e429a6fd263c35524917561aa9ac740077ca4a05cbf18c792713ca49", func := "cresset/cressetlaw19.CkptPieces", spec := "ckptPieces", unfollowed := true, recurses := true, apart := false }
def CkptPiecesSaid : Prop := ckptPiecesRow.holds Try.pinned (OpenSpec.ofChange ckptPiecesSpec)

/-- ITS FALSE NEIGHBOUR: 'it returns false'. Refute it at one input. -/
def ckptPiecesWrong : ChangeSpec := { name := "ckptPieces", fn := fun _ => fun
  | [d1, d2] => { results := [.lit (.bool false)], args := [d1, d2] }
  | _ => none }
def CkptPiecesWrongFalsely : Prop := ckptPiecesRow.holds Try.pinned (OpenSpec.ofChange ckptPiecesWrong)

/- THE SECOND FORM. 'bulk': how many values and letters a reading holds, each counted each time it is reached (what is shared counts as often as it is met; a slice's spare places count too). A statement '..UptoSaid' is the law's where the arguments, and the package variables that the reading takes, are together of bulk at most 1048576: NARROWER than '..Said'. Prove '..Said' where nothing that the law and all that it calls make is longer than what came in: it says more and counts as full. Else prove '..UptoSaid'. A law counts once. -/
mutual
def uptoBulk {H : Type} : DataW H → Nat
  | .lit (.string bytes) => bytes.length + 1
  | .lit _ => 1
  | .nil => 1
  | .ptr d => uptoBulk d + 1
  | .slice elems spare => uptoBulkAll elems + uptoBulkAll spare + 1
  | .agg parts => uptoBulkAll parts + 1
  | .iface _ d => uptoBulk d + 1
  | .map entries => uptoBulkEntries entries + 1
  | .held _ => 1
def uptoBulkAll {H : Type} : List (DataW H) → Nat
  | [] => 0
  | d :: r => uptoBulk d + uptoBulkAll r
def uptoBulkEntries {H : Type} : List (Lit × DataW H) → Nat
  | [] => 0
  | x :: r => uptoBulkEntry x + uptoBulkEntries r
def uptoBulkEntry {H : Type} : Lit × DataW H → Nat
  | (.string bytes, d) => bytes.length + uptoBulk d + 1
  | (_, d) => uptoBulk d + 1
 end
def uptoSmall : (H : Type) → List (DataW H) → Bool := fun _ ds => decide (uptoBulkAll ds ≤ 1048576)
def OpenSpec.upto (s : _root_.Go.ChangeSpec) : _root_.Go.OpenSpec := { _root_.Go.OpenSpec.ofChange s with cond := some uptoSmall }

/-- 'cressetlaw19.CkptNone', WHERE WHAT IT READS IS OF BULK AT MOST 1048576: true; the input reads as it did. -/
def ckptNoneUptoRow : OpenClaim := { program := "ytlofcljlmfnhbaa", sum := "525921b5e429a6fd263c35524917561aa9ac740077ca4a05cbf18c792713ca49", func := "cresset/cressetlaw19.CkptNone", spec := "ckptNone", unfollowed := true, recurses := true, apart := false, narrowed := true }
def CkptNoneUptoSaid : Prop := ckptNoneUptoRow.holds Try.pinned (OpenSpec.upto ckptNoneSpec)

/-- 'cressetlaw19.CkptChecks', WHERE WHAT IT READS IS OF BULK AT MOST 1048576: true; the input reads as it did. -/
def ckptChecksUptoRow : OpenClaim := { program := "ytlofcljlmfnhbaa", sum := "525921b5e429a6fd263c35524917561aa9ac740077ca4a05cbf18c792713ca49", func := "cresset/cressetlaw19.CkptChecks", spec := "ckptChecks", unfollowed := true, recurses := true, apart := false, narrowed := true }
def CkptChecksUptoSaid : Prop := ckptChecksUptoRow.holds Try.pinned (OpenSpec.upto ckptChecksSpec)

/-- 'cressetlaw19.CkptOther', WHERE WHAT IT READS IS OF BULK AT MOST 1048576: true; the input reads as it did. -/
def ckptOtherUptoRow : OpenClaim := { program := "ytlofcljlmfnhbaa", sum := "525921b5e429a6fd263c35524917561aa9ac740077ca4a05cbf18c792713ca49", func := "cresset/cressetlaw19.CkptOther", spec := "ckptOther", unfollowed := true, recurses := true, apart := false, narrowed := true }
def CkptOtherUptoSaid : Prop := ckptOtherUptoRow.holds Try.pinned (OpenSpec.upto ckptOtherSpec)

/-- 'cressetlaw19.CkptBack', WHERE WHAT IT READS IS OF BULK AT MOST 1048576: true; the input reads as it did. -/
def ckptBackUptoRow : OpenClaim := { program := "ytlofcljlmfnhbaa", sum := "525921b5e429a6fd263c35524917561aa9ac740077ca4a05cbf18c792713ca49", func := "cresset/cressetlaw19.CkptBack", spec := "ckptBack", unfollowed := true, recurses := true, apart := false, narrowed := true }
def CkptBackUptoSaid : Prop := ckptBackUptoRow.holds Try.pinned (OpenSpec.upto ckptBackSpec)

/-- 'cressetlaw19.CkptPieces', WHERE WHAT IT READS IS OF BULK AT MOST 1048576: true; the input reads as it did. -/
def ckptPiecesUptoRow : OpenClaim := { program := "ytlofcljlmfnhbaa", sum := "525921b5e429a6fd263c35524917561aa9ac740077ca4a05cbf18c792713ca49", func := "cresset/cressetlaw19.CkptPieces", spec := "ckptPieces", unfollowed := true, recurses := true, apart := false, narrowed := true }
def CkptPiecesUptoSaid : Prop := ckptPiecesUptoRow.holds Try.pinned (OpenSpec.upto ckptPiecesSpec)

end Rows
end Go.Proofs.Ytlofcljlmfnhbaa
