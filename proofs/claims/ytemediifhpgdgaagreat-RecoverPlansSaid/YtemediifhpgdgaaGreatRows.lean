/-
  No cell of these rows narrows 'for every input' (looked for: loops, veiled, ifaces, maps, wideKeys, modest, calm, conditions, laid).
  DERIVED. THE GIVEN ROWS OF THIS SEAT. 2 by the template 'for every input the law returns true; each argument reads behind the call as it read before'; 0 by the template 'total and deterministic' (their statements: YtemediifhpgdgaaGreatTotals.lean).
  GIVEN WITH THE SEED: the statements are not yours to turn. If you find one false, say at which input.
  Laid BY PROGRAM, IN A SANDBOX (cutbox-rows.mjs): the forced cells as the released guide's own fill.sh prints them over the translation 88d1f7c93aed9f16… (all of the seat's roots in one cut). By AI agents, Wed Nov 11 2026. No macro, syntax, notation, axiom, sorry.
-/
import Derived.Test.YtemediifhpgdgaaGreatChecked
import GoSem.Claim
import GoSem.ClaimJoined
import GoSem.ClaimMapViews
import Derived.JoinedTies
import Derived.KernelRfl
namespace Go.Proofs.YtemediifhpgdgaaGreat
/- THE CELL 'sum', in the pinned program and in every row, IS THE sha256 OF THE DUMP (.gsa) THAT YtemediifhpgdgaaGreatProg.lean LOADS. Nothing in Lean hashes anything: it is a label: what it is worth is what the hold of that sum in a sandbox is worth. -/
noncomputable def Tryz.pinned : Pinned := { name := "ytemediifhpgdgaagreat", sum := "88d1f7c93aed9f16526ee10e67ad7789231852357a69bd0e818f032a84358549", checked := Tryz.checked }
namespace Rows
def none {H : Type} : Left H := { results := [], args := [] }

/-- 'cressetlaw21.RecoverPlans': WHATEVER THE INPUT: true; the input reads as it did. -/
def recoverPlansSpec : ChangeSpec := { name := "recoverPlans", fn := fun _ => fun
  | [d1, d2, d3] => { results := [.lit (.bool true)], args := [d1, d2, d3] }
  | _ => none }
def recoverPlansRow : OpenClaim := { program := "ytemediifhpgdgaagreat", sum := "88d1f7c93aed9f16526ee10e67ad7789231852357a69bd0e818f032a84358549", func := "cresset/cressetlaw21.RecoverPlans", spec := "recoverPlans", inPlace := ["internal/bytealg.abigen_runtime_cmpstring", "slices.overlaps[cresset/api.Stamped]"], unfollowed := true, recurses := true, apart := false }
def RecoverPlansSaid : Prop := recoverPlansRow.holds Tryz.pinned (OpenSpec.ofChange recoverPlansSpec)

/-- ITS FALSE NEIGHBOUR: 'it returns false'. Refute it at one input. -/
def recoverPlansWrong : ChangeSpec := { name := "recoverPlans", fn := fun _ => fun
  | [d1, d2, d3] => { results := [.lit (.bool false)], args := [d1, d2, d3] }
  | _ => none }
def RecoverPlansWrongFalsely : Prop := recoverPlansRow.holds Tryz.pinned (OpenSpec.ofChange recoverPlansWrong)

/-- 'cressetlaw21.RecoverNone': WHATEVER THE INPUT: true; the input reads as it did. -/
def recoverNoneSpec : ChangeSpec := { name := "recoverNone", fn := fun _ => fun
  | [d1, d2] => { results := [.lit (.bool true)], args := [d1, d2] }
  | _ => none }
def recoverNoneRow : OpenClaim := { program := "ytemediifhpgdgaagreat", sum := "88d1f7c93aed9f16526ee10e67ad7789231852357a69bd0e818f032a84358549", func := "cresset/cressetlaw21.RecoverNone", spec := "recoverNone", inPlace := ["internal/bytealg.abigen_runtime_cmpstring", "slices.overlaps[cresset/api.Stamped]"], unfollowed := true, recurses := true, apart := false }
def RecoverNoneSaid : Prop := recoverNoneRow.holds Tryz.pinned (OpenSpec.ofChange recoverNoneSpec)

/-- ITS FALSE NEIGHBOUR: 'it returns false'. Refute it at one input. -/
def recoverNoneWrong : ChangeSpec := { name := "recoverNone", fn := fun _ => fun
  | [d1, d2] => { results := [.lit (.bool false)], args := [d1, d2] }
  | _ => none }
def RecoverNoneWrongFalsely : Prop := recoverNoneRow.holds Tryz.pinned (OpenSpec.ofChange recoverNoneWrong)

/- THE SECOND FORM. 'bulk': how many values and letters a reading holds, each counted each time it is reached (what is shared counts as often as it is met; a slice's spare places count too). A statement '..UptoSaid' is the law's where the arguments, and the package variables that the reading takes, are together of bulk at most 1048576: NARROWER than '..Said'. Prove '..Said' where nothing that the law and all that it calls make is longer than what came in: it says more and counts as full. Else prove '..UptoSaid'. A law counts once. -/
mutual
def uptoBulk {H : Type} : DataW H → Nat
  | .lit (.string bytes) => bytes.length + 1
  | .lit _ => 1
  | .nil => 1
  | .ptr d => uptoBulk d + 1
  | .slice elems spare => uptoBulkAll elems + uptoBulkAll spare + 1
  | .agg parts => uptoBulkAll parts + 1
  | .iface _ d => uptoBulk d + 1
  | .map entries => uptoBulkEntries entries + 1
  | .held _ => 1
def uptoBulkAll {H : Type} : List (DataW H) → Nat
  | [] => 0
  | d :: r => uptoBulk d + uptoBulkAll r
def uptoBulkEntries {H : Type} : List (Lit × DataW H) → Nat
  | [] => 0
  | x :: r => uptoBulkEntry x + uptoBulkEntries r
def uptoBulkEntry {H : Type} : Lit × DataW H → Nat
  | (.string bytes, d) => bytes.length + uptoBulk d + 1
  | (_, d) => uptoBulk d + 1
 end
def uptoSmall : (H : Type) → List (DataW H) → Bool := fun _ ds => decide (uptoBulkAll ds ≤ 1048576)
def OpenSpec.upto (s : _root_.Go.ChangeSpec) : _root_.Go.OpenSpec := { _root_.Go.OpenSpec.ofChange s with cond := some uptoSmall }

/-- 'cressetlaw21.RecoverPlans', WHERE WHAT IT READS IS OF BULK AT MOST 1048576: true; the input reads as it did. -/
def recoverPlansUptoRow : OpenClaim := { program := "ytemediifhpgdgaagreat", sum := "88d1f7c93aed9f16526ee10e67ad7789231852357a69bd0e818f032a84358549", func := "cresset/cressetlaw21.RecoverPlans", spec := "recoverPlans", inPlace := ["internal/bytealg.abigen_runtime_cmpstring", "slices.overlaps[cresset/api.Stamped]"], unfollowed := true, recurses := true, apart := false, narrowed := true }
def RecoverPlansUptoSaid : Prop := recoverPlansUptoRow.holds Tryz.pinned (OpenSpec.upto recoverPlansSpec)

/-- 'cressetlaw21.RecoverNone', WHERE WHAT IT READS IS OF BULK AT MOST 1048576: true; the input reads as it did. -/
def recoverNoneUptoRow : OpenClaim := { program := "ytemediifhpgdgaagreat", sum := "88d1f7c93aed9f16526ee10e67ad7789231852357a69bd0e818f032a84358549", func := "cresset/cressetlaw21.RecoverNone", spec := "recoverNone", inPlace := ["internal/bytealg.abigen_runtime_cmpstring", "slices.overlaps[cresset/api.Stamped]"], unfollowed := true, recurses := true, apart := false, narrowed := true }
def RecoverNoneUptoSaid : Prop := recoverNoneUptoRow.holds Tryz.pinned (OpenSpec.upto recoverNoneSpec)

end Rows
end Go.Proofs.YtemediifhpgdgaaGreat
