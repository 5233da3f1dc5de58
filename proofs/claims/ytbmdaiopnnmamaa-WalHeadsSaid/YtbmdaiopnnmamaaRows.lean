/-
  No cell of these rows narrows 'for every input' (looked for: loops, veiled, ifaces, maps, wideKeys, modest, calm, conditions, laid).
  DERIVED. THE GIVEN ROWS OF THIS SEAT. 9 by the template 'for every input the law returns true; each argument reads behind the call as it read before'; 0 by the template 'total and deterministic' (their statements: YtbmdaiopnnmamaaTotals.lean).
  GIVEN WITH THE SEED: the statements are not yours to turn. If you find one false, say at which input.
  Laid BY PROGRAM, IN A SANDBOX (cutbox-rows.mjs): the forced cells as the released guide's own fill.sh prints them over the translation 34ca67e27df3d9ba… (all of the seat's roots in one cut). By AI agents, Wed Nov 11 2026. No macro, syntax, notation, axiom, sorry.
-/
import Derived.Test.YtbmdaiopnnmamaaChecked
import GoSem.Claim
import GoSem.ClaimJoined
import GoSem.ClaimMapViews
import Derived.JoinedTies
import Derived.KernelRfl
namespace Go.Proofs.Ytbmdaiopnnmamaa
/- THE CELL 'sum', in the pinned program and in every row, IS THE sha256 OF THE DUMP (.gsa) THAT YtbmdaiopnnmamaaProg.lean LOADS. Nothing in Lean hashes anything: it is a label: what it is worth is what the hold of that sum in a sandbox is worth. -/
noncomputable def Try.pinned : Pinned := { name := "ytbmdaiopnnmamaa", sum := "34ca67e27df3d9babc44898c502e98095c8088098b5ab4e5165ea8af32fb0ca7", checked := Try.checked }
namespace Rows
def none {H : Type} : Left H := { results := [], args := [] }

/-- 'cressetlaw17.WalHeads': WHATEVER THE INPUT: true; the input reads as it did. -/
def walHeadsSpec : ChangeSpec := { name := "walHeads", fn := fun _ => fun
  | [d1, d2, d3] => { results := [.lit (.bool true)], args := [d1, d2, d3] }
  | _ => none }
def walHeadsRow : OpenClaim := { program := "ytbmdaiopnnmamaa", sum := "34ca67e27df3d9babc44898c502e98095c8088098b5ab4e5165ea8af32fb0ca7", func := "cresset/cressetlaw17.WalHeads", spec := "walHeads", unfollowed := true, recurses := true, apart := false }
def WalHeadsSaid : Prop := walHeadsRow.holds Try.pinned (OpenSpec.ofChange walHeadsSpec)

/-- ITS FALSE NEIGHBOUR: 'it returns false'. Refute it at one input. -/
def walHeadsWrong : ChangeSpec := { name := "walHeads", fn := fun _ => fun
  | [d1, d2, d3] => { results := [.lit (.bool false)], args := [d1, d2, d3] }
  | _ => none }
def WalHeadsWrongFalsely : Prop := walHeadsRow.holds Try.pinned (OpenSpec.ofChange walHeadsWrong)

/-- 'cressetlaw20.MasterBack': WHATEVER THE INPUT: true; the input reads as it did. -/
def masterBackSpec : ChangeSpec := { name := "masterBack", fn := fun _ => fun
  | [d1, d2] => { results := [.lit (.bool true)], args := [d1, d2] }
  | _ => none }
def masterBackRow : OpenClaim := { program := "ytbmdaiopnnmamaa", sum := "34ca67e27df3d9babc44898c502e98095c8088098b5ab4e5165ea8af32fb0ca7", func := "cresset/cressetlaw20.MasterBack", spec := "masterBack", unfollowed := true, recurses := true, apart := false }
def MasterBackSaid : Prop := masterBackRow.holds Try.pinned (OpenSpec.ofChange masterBackSpec)

/-- ITS FALSE NEIGHBOUR: 'it returns false'. Refute it at one input. -/
def masterBackWrong : ChangeSpec := { name := "masterBack", fn := fun _ => fun
  | [d1, d2] => { results := [.lit (.bool false)], args := [d1, d2] }
  | _ => none }
def MasterBackWrongFalsely : Prop := masterBackRow.holds Try.pinned (OpenSpec.ofChange masterBackWrong)

/-- 'cressetlaw20.MasterNone': WHATEVER THE INPUT: true; the input reads as it did. -/
def masterNoneSpec : ChangeSpec := { name := "masterNone", fn := fun _ => fun
  | [d1, d2] => { results := [.lit (.bool true)], args := [d1, d2] }
  | _ => none }
def masterNoneRow : OpenClaim := { program := "ytbmdaiopnnmamaa", sum := "34ca67e27df3d9babc44898c502e98095c8088098b5ab4e5165ea8af32fb0ca7", func := "cresset/cressetlaw20.MasterNone", spec := "masterNone", unfollowed := true, recurses := true, apart := false }
def MasterNoneSaid : Prop := masterNoneRow.holds Try.pinned (OpenSpec.ofChange masterNoneSpec)

/-- ITS FALSE NEIGHBOUR: 'it returns false'. Refute it at one input. -/
def masterNoneWrong : ChangeSpec := { name := "masterNone", fn := fun _ => fun
  | [d1, d2] => { results := [.lit (.bool false)], args := [d1, d2] }
  | _ => none }
def MasterNoneWrongFalsely : Prop := masterNoneRow.holds Try.pinned (OpenSpec.ofChange masterNoneWrong)

/-- 'cressetlaw20.MasterNext': WHATEVER THE INPUT: true; the input reads as it did. -/
def masterNextSpec : ChangeSpec := { name := "masterNext", fn := fun _ => fun
  | [d1, d2, d3, d4, d5] => { results := [.lit (.bool true)], args := [d1, d2, d3, d4, d5] }
  | _ => none }
def masterNextRow : OpenClaim := { program := "ytbmdaiopnnmamaa", sum := "34ca67e27df3d9babc44898c502e98095c8088098b5ab4e5165ea8af32fb0ca7", func := "cresset/cressetlaw20.MasterNext", spec := "masterNext", unfollowed := true, recurses := true, apart := false }
def MasterNextSaid : Prop := masterNextRow.holds Try.pinned (OpenSpec.ofChange masterNextSpec)

/-- ITS FALSE NEIGHBOUR: 'it returns false'. Refute it at one input. -/
def masterNextWrong : ChangeSpec := { name := "masterNext", fn := fun _ => fun
  | [d1, d2, d3, d4, d5] => { results := [.lit (.bool false)], args := [d1, d2, d3, d4, d5] }
  | _ => none }
def MasterNextWrongFalsely : Prop := masterNextRow.holds Try.pinned (OpenSpec.ofChange masterNextWrong)

/-- 'cressetlaw20.MasterSector': WHATEVER THE INPUT: true; the input reads as it did. -/
def masterSectorSpec : ChangeSpec := { name := "masterSector", fn := fun _ => fun
  | [d1, d2] => { results := [.lit (.bool true)], args := [d1, d2] }
  | _ => none }
def masterSectorRow : OpenClaim := { program := "ytbmdaiopnnmamaa", sum := "34ca67e27df3d9babc44898c502e98095c8088098b5ab4e5165ea8af32fb0ca7", func := "cresset/cressetlaw20.MasterSector", spec := "masterSector", unfollowed := true, recurses := true, apart := false }
def MasterSectorSaid : Prop := masterSectorRow.holds Try.pinned (OpenSpec.ofChange masterSectorSpec)

/-- ITS FALSE NEIGHBOUR: 'it returns false'. Refute it at one input. -/
def masterSectorWrong : ChangeSpec := { name := "masterSector", fn := fun _ => fun
  | [d1, d2] => { results := [.lit (.bool false)], args := [d1, d2] }
  | _ => none }
def MasterSectorWrongFalsely : Prop := masterSectorRow.holds Try.pinned (OpenSpec.ofChange masterSectorWrong)

/-- 'cressetlaw17.WalOwn': WHATEVER THE INPUT: true; the input reads as it did. -/
def walOwnSpec : ChangeSpec := { name := "walOwn", fn := fun _ => fun
  | [d] => { results := [.lit (.bool true)], args := [d] }
  | _ => none }
def walOwnRow : OpenClaim := { program := "ytbmdaiopnnmamaa", sum := "34ca67e27df3d9babc44898c502e98095c8088098b5ab4e5165ea8af32fb0ca7", func := "cresset/cressetlaw17.WalOwn", spec := "walOwn", unfollowed := true, recurses := true, apart := false }
def WalOwnSaid : Prop := walOwnRow.holds Try.pinned (OpenSpec.ofChange walOwnSpec)

/-- ITS FALSE NEIGHBOUR: 'it returns false'. Refute it at one input. -/
def walOwnWrong : ChangeSpec := { name := "walOwn", fn := fun _ => fun
  | [d] => { results := [.lit (.bool false)], args := [d] }
  | _ => none }
def WalOwnWrongFalsely : Prop := walOwnRow.holds Try.pinned (OpenSpec.ofChange walOwnWrong)

/-- 'cressetlaw20.MasterCounts': WHATEVER THE INPUT: true; the input reads as it did. -/
def masterCountsSpec : ChangeSpec := { name := "masterCounts", fn := fun _ => fun
  | [d1, d2, d3, d4, d5] => { results := [.lit (.bool true)], args := [d1, d2, d3, d4, d5] }
  | _ => none }
def masterCountsRow : OpenClaim := { program := "ytbmdaiopnnmamaa", sum := "34ca67e27df3d9babc44898c502e98095c8088098b5ab4e5165ea8af32fb0ca7", func := "cresset/cressetlaw20.MasterCounts", spec := "masterCounts", unfollowed := true, recurses := true, apart := false }
def MasterCountsSaid : Prop := masterCountsRow.holds Try.pinned (OpenSpec.ofChange masterCountsSpec)

/-- ITS FALSE NEIGHBOUR: 'it returns false'. Refute it at one input. -/
def masterCountsWrong : ChangeSpec := { name := "masterCounts", fn := fun _ => fun
  | [d1, d2, d3, d4, d5] => { results := [.lit (.bool false)], args := [d1, d2, d3, d4, d5] }
  | _ => none }
def MasterCountsWrongFalsely : Prop := masterCountsRow.holds Try.pinned (OpenSpec.ofChange masterCountsWrong)

/-- 'cressetlaw17.WalNone': WHATEVER THE INPUT: true; the input reads as it did. -/
def walNoneSpec : ChangeSpec := { name := "walNone", fn := fun _ => fun
  | [d1, d2] => { results := [.lit (.bool true)], args := [d1, d2] }
  | _ => none }
def walNoneRow : OpenClaim := { program := "ytbmdaiopnnmamaa", sum := "34ca67e27df3d9babc44898c502e98095c8088098b5ab4e5165ea8af32fb0ca7", func := "cresset/cressetlaw17.WalNone", spec := "walNone", unfollowed := true, recurses := true, apart := false }
def WalNoneSaid : Prop := walNoneRow.holds Try.pinned (OpenSpec.ofChange walNoneSpec)

/-- ITS FALSE NEIGHBOUR: 'it returns false'. Refute it at one input. -/
def walNoneWrong : ChangeSpec := { name := "walNone", fn := fun _ => fun
  | [d1, d2] => { results := [.lit (.bool false)], args := [d1, d2] }
  | _ => none }
def WalNoneWrongFalsely : Prop := walNoneRow.holds Try.pinned (OpenSpec.ofChange walNoneWrong)

/-- 'cressetlaw17.WalSure': WHATEVER THE INPUT: true; the input reads as it did. -/
def walSureSpec : ChangeSpec := { name := "walSure", fn := fun _ => fun
  | [d] => { results := [.lit (.bool true)], args := [d] }
  | _ => none }
def walSureRow : OpenClaim := { program := "ytbmdaiopnnmamaa", sum := "34ca67e27df3d9babc44898c502e98095c8088098b5ab4e5165ea8af32fb0ca7", func := "cresset/cressetlaw17.WalSure", spec := "walSure", unfollowed := true, recurses := true, apart := false }
def WalSureSaid : Prop := walSureRow.holds Try.pinned (OpenSpec.ofChange walSureSpec)

/-- ITS FALSE NEIGHBOUR: 'it returns false'. Refute it at one input. -/
def walSureWrong : ChangeSpec := { name := "walSure", fn := fun _ => fun
  | [d] => { results := [.lit (.bool false)], args := [d] }
  | _ => none }
def WalSureWrongFalsely : Prop := walSureRow.holds Try.pinned (OpenSpec.ofChange walSureWrong)

/- THE SECOND FORM. 'bulk': how many values and letters a reading holds, each counted each time it is reached (what is shared counts as often as it is met; a slice's spare places count too). A statement '..UptoSaid' is the law's where the arguments, and the package variables that the reading takes, are together of bulk at most 1048576: NARROWER than '..Said'. Prove '..Said' where nothing that the law and all that it calls make is longer than what came in: it says more and counts as full. Else prove '..UptoSaid'. A law counts once. -/
mutual
def uptoBulk {H : Type} : DataW H → Nat
  | .lit (.string bytes) => bytes.length + 1
  | .lit _ => 1
  | .nil => 1
  | .ptr d => uptoBulk d + 1
  | .slice elems spare => uptoBulkAll elems + uptoBulkAll spare + 1
  | .agg parts => uptoBulkAll parts + 1
  | .iface _ d => uptoBulk d + 1
  | .map entries => uptoBulkEntries entries + 1
  | .held _ => 1
def uptoBulkAll {H : Type} : List (DataW H) → Nat
  | [] => 0
  | d :: r => uptoBulk d + uptoBulkAll r
def uptoBulkEntries {H : Type} : List (Lit × DataW H) → Nat
  | [] => 0
  | x :: r => uptoBulkEntry x + uptoBulkEntries r
def uptoBulkEntry {H : Type} : Lit × DataW H → Nat
  | (.string bytes, d) => bytes.length + uptoBulk d + 1
  | (_, d) => uptoBulk d + 1
 end
def uptoSmall : (H : Type) → List (DataW H) → Bool := fun _ ds => decide (uptoBulkAll ds ≤ 1048576)
def OpenSpec.upto (s : _root_.Go.ChangeSpec) : _root_.Go.OpenSpec := { _root_.Go.OpenSpec.ofChange s with cond := some uptoSmall }

/-- 'cressetlaw17.WalHeads', WHERE WHAT IT READS IS OF BULK AT MOST 1048576: true; the input reads as it did. -/
def walHeadsUptoRow : OpenClaim := { program := "ytbmdaiopnnmamaa", sum := "34ca67e27df3d9babc44898c502e98095c8088098b5ab4e5165ea8af32fb0ca7", func := "cresset/cressetlaw17.WalHeads", spec := "walHeads", unfollowed := true, recurses := true, apart := false, narrowed := true }
def WalHeadsUptoSaid : Prop := walHeadsUptoRow.holds Try.pinned (OpenSpec.upto walHeadsSpec)

/-- 'cressetlaw20.MasterBack', WHERE WHAT IT READS IS OF BULK AT MOST 1048576: true; the input reads as it did. -/
def masterBackUptoRow : OpenClaim := { program := "ytbmdaiopnnmamaa", sum := "34ca67e27df3d9babc44898c502e98095c8088098b5ab4e5165ea8af32fb0ca7", func := "cresset/cressetlaw20.MasterBack", spec := "masterBack", unfollowed := true, recurses := true, apart := false, narrowed := true }
def MasterBackUptoSaid : Prop := masterBackUptoRow.holds Try.pinned (OpenSpec.upto masterBackSpec)

/-- 'cressetlaw20.MasterNone', WHERE WHAT IT READS IS OF BULK AT MOST 1048576: true; the input reads as it did. -/
def masterNoneUptoRow : OpenClaim := { program := "ytbmdaiopnnmamaa", sum := "34ca67e27df3d9babc44898c502e98095c8088098b5ab4e5165ea8af32fb0ca7", func := "cresset/cressetlaw20.MasterNone", spec := "masterNone", unfollowed := true, recurses := true, apart := false, narrowed := true }
def MasterNoneUptoSaid : Prop := masterNoneUptoRow.holds Try.pinned (OpenSpec.upto masterNoneSpec)

/-- 'cressetlaw20.MasterNext', WHERE WHAT IT READS IS OF BULK AT MOST 1048576: true; the input reads as it did. -/
def masterNextUptoRow : OpenClaim := { program := "ytbmdaiopnnmamaa", sum := "34ca67e27df3d9babc44898c502e98095c8088098b5ab4e5165ea8af32fb0ca7", func := "cresset/cressetlaw20.MasterNext", spec := "masterNext", unfollowed := true, recurses := true, apart := false, narrowed := true }
def MasterNextUptoSaid : Prop := masterNextUptoRow.holds Try.pinned (OpenSpec.upto masterNextSpec)

/-- 'cressetlaw20.MasterSector', WHERE WHAT IT READS IS OF BULK AT MOST 1048576: true; the input reads as it did. -/
def masterSectorUptoRow : OpenClaim := { program := "ytbmdaiopnnmamaa", sum := "34ca67e27df3d9babc44898c502e98095c8088098b5ab4e5165ea8af32fb0ca7", func := "cresset/cressetlaw20.MasterSector", spec := "masterSector", unfollowed := true, recurses := true, apart := false, narrowed := true }
def MasterSectorUptoSaid : Prop := masterSectorUptoRow.holds Try.pinned (OpenSpec.upto masterSectorSpec)

/-- 'cressetlaw17.WalOwn', WHERE WHAT IT READS IS OF BULK AT MOST 1048576: true; the input reads as it did. -/
def walOwnUptoRow : OpenClaim := { program := "ytbmdaiopnnmamaa", sum := "34ca67e27df3d9babc44898c502e98095c8088098b5ab4e5165ea8af32fb0ca7", func := "cresset/cressetlaw17.WalOwn", spec := "walOwn", unfollowed := true, recurses := true, apart := false, narrowed := true }
def WalOwnUptoSaid : Prop := walOwnUptoRow.holds Try.pinned (OpenSpec.upto walOwnSpec)

/-- 'cressetlaw20.MasterCounts', WHERE WHAT IT READS IS OF BULK AT MOST 1048576: true; the input reads as it did. -/
def masterCountsUptoRow : OpenClaim := { program := "ytbmdaiopnnmamaa", sum := "34ca67e27df3d9babc44898c502e98095c8088098b5ab4e5165ea8af32fb0ca7", func := "cresset/cressetlaw20.MasterCounts", spec := "masterCounts", unfollowed := true, recurses := true, apart := false, narrowed := true }
def MasterCountsUptoSaid : Prop := masterCountsUptoRow.holds Try.pinned (OpenSpec.upto masterCountsSpec)

/-- 'cressetlaw17.WalNone', WHERE WHAT IT READS IS OF BULK AT MOST 1048576: true; the input reads as it did. -/
def walNoneUptoRow : OpenClaim := { program := "ytbmdaiopnnmamaa", sum := "34ca67e27df3d9babc44898c502e98095c8088098b5ab4e5165ea8af32fb0ca7", func := "cresset/cressetlaw17.WalNone", spec := "walNone", unfollowed := true, recurses := true, apart := false, narrowed := true }
def WalNoneUptoSaid : Prop := walNoneUptoRow.holds Try.pinned (OpenSpec.upto walNoneSpec)

/-- 'cressetlaw17.WalSure', WHERE WHAT IT READS IS OF BULK AT MOST 1048576: true; the input reads as it did. -/
def walSureUptoRow : OpenClaim := { program := "ytbmdaiopnnmamaa", sum := "34ca67e27df3d9babc44898c502e98095c8088098b5ab4e5165ea8af32fb0ca7", func := "cresset/cressetlaw17.WalSure", spec := "walSure", unfollowed := true, recurses := true, apart := false, narrowed := true }
def WalSureUptoSaid : Prop := walSureUptoRow.holds Try.pinned (OpenSpec.upto walSureSpec)

end Rows
end Go.Proofs.Ytbmdaiopnnmamaa
