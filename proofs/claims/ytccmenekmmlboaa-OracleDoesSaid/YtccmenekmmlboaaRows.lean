/-
  No cell of these rows narrows 'for every input' (looked for: loops, veiled, ifaces, maps, wideKeys, modest, calm, conditions, laid).
  DERIVED. THE GIVEN ROWS OF THIS SEAT. 11 by the template 'for every input the law returns true; each argument reads behind the call as it read before'; 0 by the template 'total and deterministic' (their statements: YtccmenekmmlboaaTotals.lean).
  GIVEN WITH THE SEED: the statements are not yours to turn. If you find one false, say at which input.
  Laid BY PROGRAM, IN A SANDBOX (cutbox-rows.mjs): the forced cells as the released guide's own fill.sh prints them over the translation b3961b31ab005cc1… (all of the seat's roots in one cut). By AI agents, Wed Nov 11 2026. No macro, syntax, notation, axiom, sorry.
-/
import Derived.Test.YtccmenekmmlboaaChecked
import GoSem.Claim
import GoSem.ClaimJoined
import GoSem.ClaimMapViews
import Derived.JoinedTies
import Derived.KernelRfl
namespace Go.Proofs.Ytccmenekmmlboaa
/- THE CELL 'sum', in the pinned program and in every row, IS THE sha256 OF THE DUMP (.gsa) THAT YtccmenekmmlboaaProg.lean LOADS. Nothing in Lean hashes anything: it is a label: what it is worth is what the hold of that sum in a sandbox is worth. -/
noncomputable def Try.pinned : Pinned := { name := "ytccmenekmmlboaa", sum := "b3961b31ab005cc1f4aeffdc80511157579a3212ca6b4b21cbf12078075b1c83", checked := Try.checked }
namespace Rows
def none {H : Type} : Left H := { results := [], args := [] }

/-- 'cressetlaw14.OracleOrder': WHATEVER THE INPUT: true; the input reads as it did. -/
def oracleOrderSpec : ChangeSpec := { name := "oracleOrder", fn := fun _ => fun
  | [d1, d2, d3] => { results := [.lit (.bool true)], args := [d1, d2, d3] }
  | _ => none }
def oracleOrderRow : OpenClaim := { program := "ytccmenekmmlboaa", sum := "b3961b31ab005cc1f4aeffdc80511157579a3212ca6b4b21cbf12078075b1c83", func := "cresset/cressetlaw14.OracleOrder", spec := "oracleOrder", inPlace := ["sync/atomic.StoreInt64", "sync/atomic.LoadInt64", "sync/atomic.AddInt64"], unfollowed := true, recurses := true, apart := false }
def OracleOrderSaid : Prop := oracleOrderRow.holds Try.pinned (OpenSpec.ofChange oracleOrderSpec)

/-- ITS FALSE NEIGHBOUR: 'it returns false'. Refute it at one input. -/
def oracleOrderWrong : ChangeSpec := { name := "oracleOrder", fn := fun _ => fun
  | [d1, d2, d3] => { results := [.lit (.bool false)], args := [d1, d2, d3] }
  | _ => none }
def OracleOrderWrongFalsely : Prop := oracleOrderRow.holds Try.pinned (OpenSpec.ofChange oracleOrderWrong)

/-- 'cressetlaw14.OracleRises': WHATEVER THE INPUT: true; the input reads as it did. -/
def oracleRisesSpec : ChangeSpec := { name := "oracleRises", fn := fun _ => fun
  | [d1, d2] => { results := [.lit (.bool true)], args := [d1, d2] }
  | _ => none }
def oracleRisesRow : OpenClaim := { program := "ytccmenekmmlboaa", sum := "b3961b31ab005cc1f4aeffdc80511157579a3212ca6b4b21cbf12078075b1c83", func := "cresset/cressetlaw14.OracleRises", spec := "oracleRises", inPlace := ["sync/atomic.StoreInt64", "sync/atomic.LoadInt64", "sync/atomic.AddInt64"], apart := false }
def OracleRisesSaid : Prop := oracleRisesRow.holds Try.pinned (OpenSpec.ofChange oracleRisesSpec)

/-- ITS FALSE NEIGHBOUR: 'it returns false'. Refute it at one input. -/
def oracleRisesWrong : ChangeSpec := { name := "oracleRises", fn := fun _ => fun
  | [d1, d2] => { results := [.lit (.bool false)], args := [d1, d2] }
  | _ => none }
def OracleRisesWrongFalsely : Prop := oracleRisesRow.holds Try.pinned (OpenSpec.ofChange oracleRisesWrong)

/-- 'cressetlaw14.OracleDoes': WHATEVER THE INPUT: true; the input reads as it did. -/
def oracleDoesSpec : ChangeSpec := { name := "oracleDoes", fn := fun _ => fun
  | [d1, d2] => { results := [.lit (.bool true)], args := [d1, d2] }
  | _ => none }
def oracleDoesRow : OpenClaim := { program := "ytccmenekmmlboaa", sum := "b3961b31ab005cc1f4aeffdc80511157579a3212ca6b4b21cbf12078075b1c83", func := "cresset/cressetlaw14.OracleDoes", spec := "oracleDoes", inPlace := ["sync/atomic.StoreInt64", "sync/atomic.LoadInt64", "sync/atomic.AddInt64", "maps.clone"], unfollowed := true, recurses := true, apart := false }
def OracleDoesSaid : Prop := oracleDoesRow.holds Try.pinned (OpenSpec.ofChange oracleDoesSpec)

/-- ITS FALSE NEIGHBOUR: 'it returns false'. Refute it at one input. -/
def oracleDoesWrong : ChangeSpec := { name := "oracleDoes", fn := fun _ => fun
  | [d1, d2] => { results := [.lit (.bool false)], args := [d1, d2] }
  | _ => none }
def OracleDoesWrongFalsely : Prop := oracleDoesRow.holds Try.pinned (OpenSpec.ofChange oracleDoesWrong)

/-- 'cressetlaw14.OracleNone': WHATEVER THE INPUT: true; the input reads as it did. -/
def oracleNoneSpec : ChangeSpec := { name := "oracleNone", fn := fun _ => fun
  | [d] => { results := [.lit (.bool true)], args := [d] }
  | _ => none }
def oracleNoneRow : OpenClaim := { program := "ytccmenekmmlboaa", sum := "b3961b31ab005cc1f4aeffdc80511157579a3212ca6b4b21cbf12078075b1c83", func := "cresset/cressetlaw14.OracleNone", spec := "oracleNone", inPlace := ["sync/atomic.StoreInt64", "sync/atomic.LoadInt64", "sync/atomic.AddInt64", "maps.clone"], unfollowed := true, recurses := true, apart := false }
def OracleNoneSaid : Prop := oracleNoneRow.holds Try.pinned (OpenSpec.ofChange oracleNoneSpec)

/-- ITS FALSE NEIGHBOUR: 'it returns false'. Refute it at one input. -/
def oracleNoneWrong : ChangeSpec := { name := "oracleNone", fn := fun _ => fun
  | [d] => { results := [.lit (.bool false)], args := [d] }
  | _ => none }
def OracleNoneWrongFalsely : Prop := oracleNoneRow.holds Try.pinned (OpenSpec.ofChange oracleNoneWrong)

/-- 'cressetlaw02.DiskSure': WHATEVER THE INPUT: true; the input reads as it did. -/
def diskSureSpec : ChangeSpec := { name := "diskSure", fn := fun _ => fun
  | [d1, d2, d3, d4] => { results := [.lit (.bool true)], args := [d1, d2, d3, d4] }
  | _ => none }
def diskSureRow : OpenClaim := { program := "ytccmenekmmlboaa", sum := "b3961b31ab005cc1f4aeffdc80511157579a3212ca6b4b21cbf12078075b1c83", func := "cresset/cressetlaw02.DiskSure", spec := "diskSure", inPlace := ["internal/bytealg.MakeNoZero"], unfollowed := true, recurses := true, apart := false }
def DiskSureSaid : Prop := diskSureRow.holds Try.pinned (OpenSpec.ofChange diskSureSpec)

/-- ITS FALSE NEIGHBOUR: 'it returns false'. Refute it at one input. -/
def diskSureWrong : ChangeSpec := { name := "diskSure", fn := fun _ => fun
  | [d1, d2, d3, d4] => { results := [.lit (.bool false)], args := [d1, d2, d3, d4] }
  | _ => none }
def DiskSureWrongFalsely : Prop := diskSureRow.holds Try.pinned (OpenSpec.ofChange diskSureWrong)

/-- 'cressetlaw02.DiskOldNew': WHATEVER THE INPUT: true; the input reads as it did. -/
def diskOldNewSpec : ChangeSpec := { name := "diskOldNew", fn := fun _ => fun
  | [d1, d2, d3, d4] => { results := [.lit (.bool true)], args := [d1, d2, d3, d4] }
  | _ => none }
def diskOldNewRow : OpenClaim := { program := "ytccmenekmmlboaa", sum := "b3961b31ab005cc1f4aeffdc80511157579a3212ca6b4b21cbf12078075b1c83", func := "cresset/cressetlaw02.DiskOldNew", spec := "diskOldNew", inPlace := ["internal/bytealg.MakeNoZero"], unfollowed := true, recurses := true, apart := false }
def DiskOldNewSaid : Prop := diskOldNewRow.holds Try.pinned (OpenSpec.ofChange diskOldNewSpec)

/-- ITS FALSE NEIGHBOUR: 'it returns false'. Refute it at one input. -/
def diskOldNewWrong : ChangeSpec := { name := "diskOldNew", fn := fun _ => fun
  | [d1, d2, d3, d4] => { results := [.lit (.bool false)], args := [d1, d2, d3, d4] }
  | _ => none }
def DiskOldNewWrongFalsely : Prop := diskOldNewRow.holds Try.pinned (OpenSpec.ofChange diskOldNewWrong)

/-- 'cressetlaw02.DiskOwn': WHATEVER THE INPUT: true; the input reads as it did. -/
def diskOwnSpec : ChangeSpec := { name := "diskOwn", fn := fun _ => fun
  | [d1, d2, d3, d4] => { results := [.lit (.bool true)], args := [d1, d2, d3, d4] }
  | _ => none }
def diskOwnRow : OpenClaim := { program := "ytccmenekmmlboaa", sum := "b3961b31ab005cc1f4aeffdc80511157579a3212ca6b4b21cbf12078075b1c83", func := "cresset/cressetlaw02.DiskOwn", spec := "diskOwn", inPlace := ["internal/bytealg.MakeNoZero"], unfollowed := true, recurses := true, apart := false }
def DiskOwnSaid : Prop := diskOwnRow.holds Try.pinned (OpenSpec.ofChange diskOwnSpec)

/-- ITS FALSE NEIGHBOUR: 'it returns false'. Refute it at one input. -/
def diskOwnWrong : ChangeSpec := { name := "diskOwn", fn := fun _ => fun
  | [d1, d2, d3, d4] => { results := [.lit (.bool false)], args := [d1, d2, d3, d4] }
  | _ => none }
def DiskOwnWrongFalsely : Prop := diskOwnRow.holds Try.pinned (OpenSpec.ofChange diskOwnWrong)

/-- 'cressetlaw02.DiskFuse': WHATEVER THE INPUT: true; the input reads as it did. -/
def diskFuseSpec : ChangeSpec := { name := "diskFuse", fn := fun _ => fun
  | [d1, d2, d3, d4] => { results := [.lit (.bool true)], args := [d1, d2, d3, d4] }
  | _ => none }
def diskFuseRow : OpenClaim := { program := "ytccmenekmmlboaa", sum := "b3961b31ab005cc1f4aeffdc80511157579a3212ca6b4b21cbf12078075b1c83", func := "cresset/cressetlaw02.DiskFuse", spec := "diskFuse", inPlace := ["internal/bytealg.MakeNoZero"], unfollowed := true, recurses := true, apart := false }
def DiskFuseSaid : Prop := diskFuseRow.holds Try.pinned (OpenSpec.ofChange diskFuseSpec)

/-- ITS FALSE NEIGHBOUR: 'it returns false'. Refute it at one input. -/
def diskFuseWrong : ChangeSpec := { name := "diskFuse", fn := fun _ => fun
  | [d1, d2, d3, d4] => { results := [.lit (.bool false)], args := [d1, d2, d3, d4] }
  | _ => none }
def DiskFuseWrongFalsely : Prop := diskFuseRow.holds Try.pinned (OpenSpec.ofChange diskFuseWrong)

/-- 'cressetlaw02.DiskSame': WHATEVER THE INPUT: true; the input reads as it did. -/
def diskSameSpec : ChangeSpec := { name := "diskSame", fn := fun _ => fun
  | [d1, d2, d3] => { results := [.lit (.bool true)], args := [d1, d2, d3] }
  | _ => none }
def diskSameRow : OpenClaim := { program := "ytccmenekmmlboaa", sum := "b3961b31ab005cc1f4aeffdc80511157579a3212ca6b4b21cbf12078075b1c83", func := "cresset/cressetlaw02.DiskSame", spec := "diskSame", inPlace := ["internal/bytealg.MakeNoZero", "maps.clone"], unfollowed := true, recurses := true, apart := false }
def DiskSameSaid : Prop := diskSameRow.holds Try.pinned (OpenSpec.ofChange diskSameSpec)

/-- ITS FALSE NEIGHBOUR: 'it returns false'. Refute it at one input. -/
def diskSameWrong : ChangeSpec := { name := "diskSame", fn := fun _ => fun
  | [d1, d2, d3] => { results := [.lit (.bool false)], args := [d1, d2, d3] }
  | _ => none }
def DiskSameWrongFalsely : Prop := diskSameRow.holds Try.pinned (OpenSpec.ofChange diskSameWrong)

/-- 'cressetlaw02.DiskDoes': WHATEVER THE INPUT: true; the input reads as it did. -/
def diskDoesSpec : ChangeSpec := { name := "diskDoes", fn := fun _ => fun
  | [d1, d2] => { results := [.lit (.bool true)], args := [d1, d2] }
  | _ => none }
def diskDoesRow : OpenClaim := { program := "ytccmenekmmlboaa", sum := "b3961b31ab005cc1f4aeffdc80511157579a3212ca6b4b21cbf12078075b1c83", func := "cresset/cressetlaw02.DiskDoes", spec := "diskDoes", inPlace := ["internal/bytealg.MakeNoZero", "maps.clone"], unfollowed := true, recurses := true, apart := false }
def DiskDoesSaid : Prop := diskDoesRow.holds Try.pinned (OpenSpec.ofChange diskDoesSpec)

/-- ITS FALSE NEIGHBOUR: 'it returns false'. Refute it at one input. -/
def diskDoesWrong : ChangeSpec := { name := "diskDoes", fn := fun _ => fun
  | [d1, d2] => { results := [.lit (.bool false)], args := [d1, d2] }
  | _ => none }
def DiskDoesWrongFalsely : Prop := diskDoesRow.holds Try.pinned (OpenSpec.ofChange diskDoesWrong)

/-- 'cressetlaw02.DiskNone': WHATEVER THE INPUT: true; the input reads as it did. -/
def diskNoneSpec : ChangeSpec := { name := "diskNone", fn := fun _ => fun
  | [d] => { results := [.lit (.bool true)], args := [d] }
  | _ => none }
def diskNoneRow : OpenClaim := { program := "ytccmenekmmlboaa", sum := "b3961b31ab005cc1f4aeffdc80511157579a3212ca6b4b21cbf12078075b1c83", func := "cresset/cressetlaw02.DiskNone", spec := "diskNone", inPlace := ["internal/bytealg.MakeNoZero", "maps.clone"], unfollowed := true, recurses := true, apart := false }
def DiskNoneSaid : Prop := diskNoneRow.holds Try.pinned (OpenSpec.ofChange diskNoneSpec)

/-- ITS FALSE NEIGHBOUR: 'it returns false'. Refute it at one input. -/
def diskNoneWrong : ChangeSpec := { name := "diskNone", fn := fun _ => fun
  | [d] => { results := [.lit (.bool false)], args := [d] }
  | _ => none }
def DiskNoneWrongFalsely : Prop := diskNoneRow.holds Try.pinned (OpenSpec.ofChange diskNoneWrong)

/- THE SECOND FORM. 'bulk': how many values and letters a reading holds, each counted each time it is reached (what is shared counts as often as it is met; a slice's spare places count too). A statement '..UptoSaid' is the law's where the arguments, and the package variables that the reading takes, are together of bulk at most 1048576: NARROWER than '..Said'. Prove '..Said' where nothing that the law and all that it calls make is longer than what came in: it says more and counts as full. Else prove '..UptoSaid'. A law counts once. -/
mutual
def uptoBulk {H : Type} : DataW H → Nat
  | .lit (.string bytes) => bytes.length + 1
  | .lit _ => 1
  | .nil => 1
  | .ptr d => uptoBulk d + 1
  | .slice elems spare => uptoBulkAll elems + uptoBulkAll spare + 1
  | .agg parts => uptoBulkAll parts + 1
  | .iface _ d => uptoBulk d + 1
  | .map entries => uptoBulkEntries entries + 1
  | .held _ => 1
def uptoBulkAll {H : Type} : List (DataW H) → Nat
  | [] => 0
  | d :: r => uptoBulk d + uptoBulkAll r
def uptoBulkEntries {H : Type} : List (Lit × DataW H) → Nat
  | [] => 0
  | x :: r => uptoBulkEntry x + uptoBulkEntries r
def uptoBulkEntry {H : Type} : Lit × DataW H → Nat
  | (.string bytes, d) => bytes.length + uptoBulk d + 1
  | (_, d) => uptoBulk d + 1
 end
def uptoSmall : (H : Type) → List (DataW H) → Bool := fun _ ds => decide (uptoBulkAll ds ≤ 1048576)
def OpenSpec.upto (s : _root_.Go.ChangeSpec) : _root_.Go.OpenSpec := { _root_.Go.OpenSpec.ofChange s with cond := some uptoSmall }

/-- 'cressetlaw14.OracleOrder', WHERE WHAT IT READS IS OF BULK AT MOST 1048576: true; the input reads as it did. -/
def oracleOrderUptoRow : OpenClaim := { program := "ytccmenekmmlboaa", sum := "b3961b31ab005cc1f4aeffdc80511157579a3212ca6b4b21cbf12078075b1c83", func := "cresset/cressetlaw14.OracleOrder", spec := "oracleOrder", inPlace := ["sync/atomic.StoreInt64", "sync/atomic.LoadInt64", "sync/atomic.AddInt64"], unfollowed := true, recurses := true, apart := false, narrowed := true }
def OracleOrderUptoSaid : Prop := oracleOrderUptoRow.holds Try.pinned (OpenSpec.upto oracleOrderSpec)

/-- 'cressetlaw14.OracleRises', WHERE WHAT IT READS IS OF BULK AT MOST 1048576: true; the input reads as it did. -/
def oracleRisesUptoRow : OpenClaim := { program := "ytccmenekmmlboaa", sum := "b3961b31ab005cc1f4aeffdc80511157579a3212ca6b4b21cbf12078075b1c83", func := "cresset/cressetlaw14.OracleRises", spec := "oracleRises", inPlace := ["sync/atomic.StoreInt64", "sync/atomic.LoadInt64", "sync/atomic.AddInt64"], apart := false, narrowed := true }
def OracleRisesUptoSaid : Prop := oracleRisesUptoRow.holds Try.pinned (OpenSpec.upto oracleRisesSpec)

/-- 'cressetlaw14.OracleDoes', WHERE WHAT IT READS IS OF BULK AT MOST 1048576: true; the input reads as it did. -/
def oracleDoesUptoRow : OpenClaim := { program := "ytccmenekmmlboaa", sum := "b3961b31ab005cc1f4aeffdc80511157579a3212ca6b4b21cbf12078075b1c83", func := "cresset/cressetlaw14.OracleDoes", spec := "oracleDoes", inPlace := ["sync/atomic.StoreInt64", "sync/atomic.LoadInt64", "sync/atomic.AddInt64", "maps.clone"], unfollowed := true, recurses := true, apart := false, narrowed := true }
def OracleDoesUptoSaid : Prop := oracleDoesUptoRow.holds Try.pinned (OpenSpec.upto oracleDoesSpec)

/-- 'cressetlaw14.OracleNone', WHERE WHAT IT READS IS OF BULK AT MOST 1048576: true; the input reads as it did. -/
def oracleNoneUptoRow : OpenClaim := { program := "ytccmenekmmlboaa", sum := "b3961b31ab005cc1f4aeffdc80511157579a3212ca6b4b21cbf12078075b1c83", func := "cresset/cressetlaw14.OracleNone", spec := "oracleNone", inPlace := ["sync/atomic.StoreInt64", "sync/atomic.LoadInt64", "sync/atomic.AddInt64", "maps.clone"], unfollowed := true, recurses := true, apart := false, narrowed := true }
def OracleNoneUptoSaid : Prop := oracleNoneUptoRow.holds Try.pinned (OpenSpec.upto oracleNoneSpec)

/-- 'cressetlaw02.DiskSure', WHERE WHAT IT READS IS OF BULK AT MOST 1048576: true; the input reads as it did. -/
def diskSureUptoRow : OpenClaim := { program := "ytccmenekmmlboaa", sum := "b3961b31ab005cc1f4aeffdc80511157579a3212ca6b4b21cbf12078075b1c83", func := "cresset/cressetlaw02.DiskSure", spec := "diskSure", inPlace := ["internal/bytealg.MakeNoZero"], unfollowed := true, recurses := true, apart := false, narrowed := true }
def DiskSureUptoSaid : Prop := diskSureUptoRow.holds Try.pinned (OpenSpec.upto diskSureSpec)

/-- 'cressetlaw02.DiskOldNew', WHERE WHAT IT READS IS OF BULK AT MOST 1048576: true; the input reads as it did. -/
def diskOldNewUptoRow : OpenClaim := { program := "ytccmenekmmlboaa", sum := "b3961b31ab005cc1f4aeffdc80511157579a3212ca6b4b21cbf12078075b1c83", func := "cresset/cressetlaw02.DiskOldNew", spec := "diskOldNew", inPlace := ["internal/bytealg.MakeNoZero"], unfollowed := true, recurses := true, apart := false, narrowed := true }
def DiskOldNewUptoSaid : Prop := diskOldNewUptoRow.holds Try.pinned (OpenSpec.upto diskOldNewSpec)

/-- 'cressetlaw02.DiskOwn', WHERE WHAT IT READS IS OF BULK AT MOST 1048576: true; the input reads as it did. -/
def diskOwnUptoRow : OpenClaim := { program := "ytccmenekmmlboaa", sum := "b3961b31ab005cc1f4aeffdc80511157579a3212ca6b4b21cbf12078075b1c83", func := "cresset/cressetlaw02.DiskOwn", spec := "diskOwn", inPlace := ["internal/bytealg.MakeNoZero"], unfollowed := true, recurses := true, apart := false, narrowed := true }
def DiskOwnUptoSaid : Prop := diskOwnUptoRow.holds Try.pinned (OpenSpec.upto diskOwnSpec)

/-- 'cressetlaw02.DiskFuse', WHERE WHAT IT READS IS OF BULK AT MOST 1048576: true; the input reads as it did. -/
def diskFuseUptoRow : OpenClaim := { program := "ytccmenekmmlboaa", sum := "b3961b31ab005cc1f4aeffdc80511157579a3212ca6b4b21cbf12078075b1c83", func := "cresset/cressetlaw02.DiskFuse", spec := "diskFuse", inPlace := ["internal/bytealg.MakeNoZero"], unfollowed := true, recurses := true, apart := false, narrowed := true }
def DiskFuseUptoSaid : Prop := diskFuseUptoRow.holds Try.pinned (OpenSpec.upto diskFuseSpec)

/-- 'cressetlaw02.DiskSame', WHERE WHAT IT READS IS OF BULK AT MOST 1048576: true; the input reads as it did. -/
def diskSameUptoRow : OpenClaim := { program := "ytccmenekmmlboaa", sum := "b3961b31ab005cc1f4aeffdc80511157579a3212ca6b4b21cbf12078075b1c83", func := "cresset/cressetlaw02.DiskSame", spec := "diskSame", inPlace := ["internal/bytealg.MakeNoZero", "maps.clone"], unfollowed := true, recurses := true, apart := false, narrowed := true }
def DiskSameUptoSaid : Prop := diskSameUptoRow.holds Try.pinned (OpenSpec.upto diskSameSpec)

/-- 'cressetlaw02.DiskDoes', WHERE WHAT IT READS IS OF BULK AT MOST 1048576: true; the input reads as it did. -/
def diskDoesUptoRow : OpenClaim := { program := "ytccmenekmmlboaa", sum := "b3961b31ab005cc1f4aeffdc80511157579a3212ca6b4b21cbf12078075b1c83", func := "cresset/cressetlaw02.DiskDoes", spec := "diskDoes", inPlace := ["internal/bytealg.MakeNoZero", "maps.clone"], unfollowed := true, recurses := true, apart := false, narrowed := true }
def DiskDoesUptoSaid : Prop := diskDoesUptoRow.holds Try.pinned (OpenSpec.upto diskDoesSpec)

/-- 'cressetlaw02.DiskNone', WHERE WHAT IT READS IS OF BULK AT MOST 1048576: true; the input reads as it did. -/
def diskNoneUptoRow : OpenClaim := { program := "ytccmenekmmlboaa", sum := "b3961b31ab005cc1f4aeffdc80511157579a3212ca6b4b21cbf12078075b1c83", func := "cresset/cressetlaw02.DiskNone", spec := "diskNone", inPlace := ["internal/bytealg.MakeNoZero", "maps.clone"], unfollowed := true, recurses := true, apart := false, narrowed := true }
def DiskNoneUptoSaid : Prop := diskNoneUptoRow.holds Try.pinned (OpenSpec.upto diskNoneSpec)

end Rows
end Go.Proofs.Ytccmenekmmlboaa
