/- The loader's facts on this program's types and functions, as instances. Printed by tools/gen_inst.py. -/
import Derived.Test.YtbmdaiopnnmamaaGreatProg
import Derived.Test.YtbmdaiopnnmamaaGreatGA
namespace Go.Gsl
set_option linter.unusedVariables false
open Go.Proofs
instance : NonAgg Tryz.prog 0 := ⟨Tryz.isAgg0⟩
instance : SizeOf Tryz.prog 0 1 := ⟨Tryz.sizeOf0⟩
instance : Und Tryz.prog 0 (Go.TypeDesc.tuple #[]) := ⟨Tryz.underlying0⟩
instance : ZeroOf Tryz.prog 0 (Go.Value.tuple #[]) := ⟨Tryz.zeroValue0⟩
instance : NonAgg Tryz.prog 1 := ⟨Tryz.isAgg1⟩
instance : SizeOf Tryz.prog 1 1 := ⟨Tryz.sizeOf1⟩
instance : Und Tryz.prog 1 (Go.TypeDesc.func #[] #[] Bool.false) := ⟨Tryz.underlying1⟩
instance : ZeroOf Tryz.prog 1 (Go.Value.nilFunc) := ⟨Tryz.zeroValue1⟩
instance : Body Tryz.prog 2 := ⟨Tryz.call2⟩
instance : NonAgg Tryz.prog 2 := ⟨Tryz.isAgg2⟩
instance : SizeOf Tryz.prog 2 1 := ⟨Tryz.sizeOf2⟩
instance : Und Tryz.prog 2 (Go.TypeDesc.int Go.IntKind.i64) := ⟨Tryz.underlying2⟩
instance : ZeroOf Tryz.prog 2 (Go.Value.int Go.IntKind.i64 0) := ⟨Tryz.zeroValue2⟩
instance : Body Tryz.prog 3 := ⟨Tryz.call3⟩
instance : NonAgg Tryz.prog 3 := ⟨Tryz.isAgg3⟩
instance : SizeOf Tryz.prog 3 1 := ⟨Tryz.sizeOf3⟩
instance : Und Tryz.prog 3 (Go.TypeDesc.int Go.IntKind.i64) := ⟨Tryz.underlying3⟩
instance : ZeroOf Tryz.prog 3 (Go.Value.int Go.IntKind.i64 0) := ⟨Tryz.zeroValue3⟩
instance : Body Tryz.prog 4 := ⟨Tryz.call4⟩
instance : NonAgg Tryz.prog 4 := ⟨Tryz.isAgg4⟩
instance : SizeOf Tryz.prog 4 1 := ⟨Tryz.sizeOf4⟩
instance : Und Tryz.prog 4 (Go.TypeDesc.bool) := ⟨Tryz.underlying4⟩
instance : ZeroOf Tryz.prog 4 (Go.Value.bool Bool.false) := ⟨Tryz.zeroValue4⟩
instance : Body Tryz.prog 5 := ⟨Tryz.call5⟩
instance : NonAgg Tryz.prog 5 := ⟨Tryz.isAgg5⟩
instance : SizeOf Tryz.prog 5 1 := ⟨Tryz.sizeOf5⟩
instance : Und Tryz.prog 5 (Go.TypeDesc.int Go.IntKind.u8) := ⟨Tryz.underlying5⟩
instance : ZeroOf Tryz.prog 5 (Go.Value.int Go.IntKind.u8 0) := ⟨Tryz.zeroValue5⟩
instance : Body Tryz.prog 6 := ⟨Tryz.call6⟩
instance : NonAgg Tryz.prog 6 := ⟨Tryz.isAgg6⟩
instance : SizeOf Tryz.prog 6 1 := ⟨Tryz.sizeOf6⟩
instance : Und Tryz.prog 6 (Go.TypeDesc.int Go.IntKind.u8) := ⟨Tryz.underlying6⟩
instance : ZeroOf Tryz.prog 6 (Go.Value.int Go.IntKind.u8 0) := ⟨Tryz.zeroValue6⟩
instance : Body Tryz.prog 7 := ⟨Tryz.call7⟩
instance : IsAggT Tryz.prog 7 := ⟨Tryz.isAgg7⟩
instance : SizeOf Tryz.prog 7 4 := ⟨Tryz.sizeOf7⟩
instance : Und Tryz.prog 7 (Go.TypeDesc.struct #[{ name := "x", type := 2, offset := 0, embedded := Bool.false, tag := "", pkgPath := "runtime", byteOffset := 0 }, { name := "y", type := 3, offset := 1, embedded := Bool.false, tag := "", pkgPath := "runtime", byteOffset := 8 }, { name := "signed", type := 4, offset := 2, embedded := Bool.false, tag := "", pkgPath := "runtime", byteOffset := 16 }, { name := "code", type := 6, offset := 3, embedded := Bool.false, tag := "", pkgPath := "runtime", byteOffset := 17 }]) := ⟨Tryz.underlying7⟩
instance : ZeroOf Tryz.prog 7 (Go.Value.agg #[Go.Value.int Go.IntKind.i64 0, Go.Value.int Go.IntKind.i64 0, Go.Value.bool Bool.false, Go.Value.int Go.IntKind.u8 0]) := ⟨Tryz.zeroValue7⟩
instance : Body Tryz.prog 8 := ⟨Tryz.call8⟩
instance : IsAggT Tryz.prog 8 := ⟨Tryz.isAgg8⟩
instance : SizeOf Tryz.prog 8 4 := ⟨Tryz.sizeOf8⟩
instance : Und Tryz.prog 8 (Go.TypeDesc.struct #[{ name := "x", type := 2, offset := 0, embedded := Bool.false, tag := "", pkgPath := "runtime", byteOffset := 0 }, { name := "y", type := 3, offset := 1, embedded := Bool.false, tag := "", pkgPath := "runtime", byteOffset := 8 }, { name := "signed", type := 4, offset := 2, embedded := Bool.false, tag := "", pkgPath := "runtime", byteOffset := 16 }, { name := "code", type := 6, offset := 3, embedded := Bool.false, tag := "", pkgPath := "runtime", byteOffset := 17 }]) := ⟨Tryz.underlying8⟩
instance : ZeroOf Tryz.prog 8 (Go.Value.agg #[Go.Value.int Go.IntKind.i64 0, Go.Value.int Go.IntKind.i64 0, Go.Value.bool Bool.false, Go.Value.int Go.IntKind.u8 0]) := ⟨Tryz.zeroValue8⟩
instance : Body Tryz.prog 9 := ⟨Tryz.call9⟩
instance : NonAgg Tryz.prog 9 := ⟨Tryz.isAgg9⟩
instance : SizeOf Tryz.prog 9 1 := ⟨Tryz.sizeOf9⟩
instance : Und Tryz.prog 9 (Go.TypeDesc.string) := ⟨Tryz.underlying9⟩
instance : ZeroOf Tryz.prog 9 (Go.Value.string { data := #[] }) := ⟨Tryz.zeroValue9⟩
instance : Body Tryz.prog 10 := ⟨Tryz.call10⟩
instance : NonAgg Tryz.prog 10 := ⟨Tryz.isAgg10⟩
instance : SizeOf Tryz.prog 10 1 := ⟨Tryz.sizeOf10⟩
instance : Und Tryz.prog 10 (Go.TypeDesc.string) := ⟨Tryz.underlying10⟩
instance : ZeroOf Tryz.prog 10 (Go.Value.string { data := #[] }) := ⟨Tryz.zeroValue10⟩
instance : Body Tryz.prog 11 := ⟨Tryz.call11⟩
instance : NonAgg Tryz.prog 11 := ⟨Tryz.isAgg11⟩
instance : SizeOf Tryz.prog 11 1 := ⟨Tryz.sizeOf11⟩
instance : Und Tryz.prog 11 (Go.TypeDesc.string) := ⟨Tryz.underlying11⟩
instance : ZeroOf Tryz.prog 11 (Go.Value.string { data := #[] }) := ⟨Tryz.zeroValue11⟩
instance : Body Tryz.prog 12 := ⟨Tryz.call12⟩
instance : NonAgg Tryz.prog 12 := ⟨Tryz.isAgg12⟩
instance : SizeOf Tryz.prog 12 1 := ⟨Tryz.sizeOf12⟩
instance : Und Tryz.prog 12 (Go.TypeDesc.int Go.IntKind.u64) := ⟨Tryz.underlying12⟩
instance : ZeroOf Tryz.prog 12 (Go.Value.int Go.IntKind.u64 0) := ⟨Tryz.zeroValue12⟩
instance : Body Tryz.prog 13 := ⟨Tryz.call13⟩
instance : IsAggT Tryz.prog 13 := ⟨Tryz.isAgg13⟩
instance : SizeOf Tryz.prog 13 2 := ⟨Tryz.sizeOf13⟩
instance : Und Tryz.prog 13 (Go.TypeDesc.struct #[{ name := "msg", type := 9, offset := 0, embedded := Bool.false, tag := "", pkgPath := "runtime", byteOffset := 0 }, { name := "addr", type := 12, offset := 1, embedded := Bool.false, tag := "", pkgPath := "runtime", byteOffset := 16 }]) := ⟨Tryz.underlying13⟩
instance : ZeroOf Tryz.prog 13 (Go.Value.agg #[Go.Value.string { data := #[] }, Go.Value.int Go.IntKind.u64 0]) := ⟨Tryz.zeroValue13⟩
instance : Body Tryz.prog 14 := ⟨Tryz.call14⟩
instance : IsAggT Tryz.prog 14 := ⟨Tryz.isAgg14⟩
instance : SizeOf Tryz.prog 14 2 := ⟨Tryz.sizeOf14⟩
instance : Und Tryz.prog 14 (Go.TypeDesc.struct #[{ name := "msg", type := 9, offset := 0, embedded := Bool.false, tag := "", pkgPath := "runtime", byteOffset := 0 }, { name := "addr", type := 12, offset := 1, embedded := Bool.false, tag := "", pkgPath := "runtime", byteOffset := 16 }]) := ⟨Tryz.underlying14⟩
instance : ZeroOf Tryz.prog 14 (Go.Value.agg #[Go.Value.string { data := #[] }, Go.Value.int Go.IntKind.u64 0]) := ⟨Tryz.zeroValue14⟩
instance : Body Tryz.prog 15 := ⟨Tryz.call15⟩
instance : NonAgg Tryz.prog 15 := ⟨Tryz.isAgg15⟩
instance : SizeOf Tryz.prog 15 1 := ⟨Tryz.sizeOf15⟩
instance : Und Tryz.prog 15 (Go.TypeDesc.pointer 214) := ⟨Tryz.underlying15⟩
instance : ZeroOf Tryz.prog 15 (Go.Value.pointer Option.none) := ⟨Tryz.zeroValue15⟩
instance : Body Tryz.prog 16 := ⟨Tryz.call16⟩
instance : NonAgg Tryz.prog 16 := ⟨Tryz.isAgg16⟩
instance : SizeOf Tryz.prog 16 1 := ⟨Tryz.sizeOf16⟩
instance : Und Tryz.prog 16 (Go.TypeDesc.pointer 217) := ⟨Tryz.underlying16⟩
instance : ZeroOf Tryz.prog 16 (Go.Value.pointer Option.none) := ⟨Tryz.zeroValue16⟩
instance : Body Tryz.prog 17 := ⟨Tryz.call17⟩
instance : NonAgg Tryz.prog 17 := ⟨Tryz.isAgg17⟩
instance : SizeOf Tryz.prog 17 1 := ⟨Tryz.sizeOf17⟩
instance : Und Tryz.prog 17 (Go.TypeDesc.pointer 225) := ⟨Tryz.underlying17⟩
instance : ZeroOf Tryz.prog 17 (Go.Value.pointer Option.none) := ⟨Tryz.zeroValue17⟩
instance : Body Tryz.prog 18 := ⟨Tryz.call18⟩
instance : IsAggT Tryz.prog 18 := ⟨Tryz.isAgg18⟩
instance : SizeOf Tryz.prog 18 1 := ⟨Tryz.sizeOf18⟩
instance : Und Tryz.prog 18 (Go.TypeDesc.struct #[{ name := "typ", type := 17, offset := 0, embedded := Bool.false, tag := "", pkgPath := "internal/runtime/maps", byteOffset := 0 }]) := ⟨Tryz.underlying18⟩
instance : ZeroOf Tryz.prog 18 (Go.Value.agg #[Go.Value.pointer Option.none]) := ⟨Tryz.zeroValue18⟩
instance : Body Tryz.prog 19 := ⟨Tryz.call19⟩
instance : IsAggT Tryz.prog 19 := ⟨Tryz.isAgg19⟩
instance : SizeOf Tryz.prog 19 1 := ⟨Tryz.sizeOf19⟩
instance : Und Tryz.prog 19 (Go.TypeDesc.struct #[{ name := "typ", type := 17, offset := 0, embedded := Bool.false, tag := "", pkgPath := "internal/runtime/maps", byteOffset := 0 }]) := ⟨Tryz.underlying19⟩
instance : ZeroOf Tryz.prog 19 (Go.Value.agg #[Go.Value.pointer Option.none]) := ⟨Tryz.zeroValue19⟩
instance : Body Tryz.prog 20 := ⟨Tryz.call20⟩
instance : NonAgg Tryz.prog 20 := ⟨Tryz.isAgg20⟩
instance : SizeOf Tryz.prog 20 1 := ⟨Tryz.sizeOf20⟩
instance : Und Tryz.prog 20 (Go.TypeDesc.interface #[]) := ⟨Tryz.underlying20⟩
instance : ZeroOf Tryz.prog 20 (Go.Value.nilIface) := ⟨Tryz.zeroValue20⟩
instance : Body Tryz.prog 21 := ⟨Tryz.call21⟩
instance : NonAgg Tryz.prog 21 := ⟨Tryz.isAgg21⟩
instance : SizeOf Tryz.prog 21 1 := ⟨Tryz.sizeOf21⟩
instance : Und Tryz.prog 21 (Go.TypeDesc.int Go.IntKind.i32) := ⟨Tryz.underlying21⟩
instance : ZeroOf Tryz.prog 21 (Go.Value.int Go.IntKind.i32 0) := ⟨Tryz.zeroValue21⟩
instance : Body Tryz.prog 22 := ⟨Tryz.call22⟩
instance : NonAgg Tryz.prog 22 := ⟨Tryz.isAgg22⟩
instance : SizeOf Tryz.prog 22 1 := ⟨Tryz.sizeOf22⟩
instance : Und Tryz.prog 22 (Go.TypeDesc.slice 39) := ⟨Tryz.underlying22⟩
instance : ZeroOf Tryz.prog 22 (Go.Value.slice Option.none 0 0) := ⟨Tryz.zeroValue22⟩
instance : Body Tryz.prog 23 := ⟨Tryz.call23⟩
instance : NonAgg Tryz.prog 23 := ⟨Tryz.isAgg23⟩
instance : SizeOf Tryz.prog 23 1 := ⟨Tryz.sizeOf23⟩
instance : Und Tryz.prog 23 (Go.TypeDesc.pointer 68) := ⟨Tryz.underlying23⟩
instance : ZeroOf Tryz.prog 23 (Go.Value.pointer Option.none) := ⟨Tryz.zeroValue23⟩
instance : Body Tryz.prog 24 := ⟨Tryz.call24⟩
instance : NonAgg Tryz.prog 24 := ⟨Tryz.isAgg24⟩
instance : SizeOf Tryz.prog 24 1 := ⟨Tryz.sizeOf24⟩
instance : Und Tryz.prog 24 (Go.TypeDesc.int Go.IntKind.i64) := ⟨Tryz.underlying24⟩
instance : ZeroOf Tryz.prog 24 (Go.Value.int Go.IntKind.i64 0) := ⟨Tryz.zeroValue24⟩
instance : Body Tryz.prog 25 := ⟨Tryz.call25⟩
instance : NonAgg Tryz.prog 25 := ⟨Tryz.isAgg25⟩
instance : SizeOf Tryz.prog 25 1 := ⟨Tryz.sizeOf25⟩
instance : Und Tryz.prog 25 (Go.TypeDesc.tuple #[23, 24]) := ⟨Tryz.underlying25⟩
instance : ZeroOf Tryz.prog 25 (Go.Value.tuple #[Go.Value.pointer Option.none, Go.Value.int Go.IntKind.i64 0]) := ⟨Tryz.zeroValue25⟩
instance : Body Tryz.prog 26 := ⟨Tryz.call26⟩
instance : NonAgg Tryz.prog 26 := ⟨Tryz.isAgg26⟩
instance : SizeOf Tryz.prog 26 1 := ⟨Tryz.sizeOf26⟩
instance : Und Tryz.prog 26 (Go.TypeDesc.func #[3] #[23, 24] Bool.false) := ⟨Tryz.underlying26⟩
instance : ZeroOf Tryz.prog 26 (Go.Value.nilFunc) := ⟨Tryz.zeroValue26⟩
instance : Body Tryz.prog 27 := ⟨Tryz.call27⟩
instance : NonAgg Tryz.prog 27 := ⟨Tryz.isAgg27⟩
instance : SizeOf Tryz.prog 27 1 := ⟨Tryz.sizeOf27⟩
instance : Und Tryz.prog 27 (Go.TypeDesc.pointer 71) := ⟨Tryz.underlying27⟩
instance : ZeroOf Tryz.prog 27 (Go.Value.pointer Option.none) := ⟨Tryz.zeroValue27⟩
instance : Body Tryz.prog 28 := ⟨Tryz.call28⟩
instance : NonAgg Tryz.prog 28 := ⟨Tryz.isAgg28⟩
instance : SizeOf Tryz.prog 28 1 := ⟨Tryz.sizeOf28⟩
instance : Und Tryz.prog 28 (Go.TypeDesc.tuple #[27, 24]) := ⟨Tryz.underlying28⟩
instance : ZeroOf Tryz.prog 28 (Go.Value.tuple #[Go.Value.pointer Option.none, Go.Value.int Go.IntKind.i64 0]) := ⟨Tryz.zeroValue28⟩
instance : Body Tryz.prog 29 := ⟨Tryz.call29⟩
instance : NonAgg Tryz.prog 29 := ⟨Tryz.isAgg29⟩
instance : SizeOf Tryz.prog 29 1 := ⟨Tryz.sizeOf29⟩
instance : Und Tryz.prog 29 (Go.TypeDesc.func #[3] #[27, 24] Bool.false) := ⟨Tryz.underlying29⟩
instance : ZeroOf Tryz.prog 29 (Go.Value.nilFunc) := ⟨Tryz.zeroValue29⟩
instance : Body Tryz.prog 30 := ⟨Tryz.call30⟩
instance : NonAgg Tryz.prog 30 := ⟨Tryz.isAgg30⟩
instance : SizeOf Tryz.prog 30 1 := ⟨Tryz.sizeOf30⟩
instance : Und Tryz.prog 30 (Go.TypeDesc.func #[] #[4] Bool.false) := ⟨Tryz.underlying30⟩
instance : ZeroOf Tryz.prog 30 (Go.Value.nilFunc) := ⟨Tryz.zeroValue30⟩
instance : Body Tryz.prog 31 := ⟨Tryz.call31⟩
instance : NonAgg Tryz.prog 31 := ⟨Tryz.isAgg31⟩
instance : SizeOf Tryz.prog 31 1 := ⟨Tryz.sizeOf31⟩
instance : Und Tryz.prog 31 (Go.TypeDesc.func #[3] #[3] Bool.false) := ⟨Tryz.underlying31⟩
instance : ZeroOf Tryz.prog 31 (Go.Value.nilFunc) := ⟨Tryz.zeroValue31⟩
instance : Body Tryz.prog 32 := ⟨Tryz.call32⟩
instance : IsAggT Tryz.prog 32 := ⟨Tryz.isAgg32⟩
instance : SizeOf Tryz.prog 32 4 := ⟨Tryz.sizeOf32⟩
instance : Und Tryz.prog 32 (Go.TypeDesc.struct #[{ name := "Sector", type := 2, offset := 0, embedded := Bool.false, tag := "", pkgPath := "", byteOffset := 0 }, { name := "Offset", type := 3, offset := 1, embedded := Bool.false, tag := "", pkgPath := "", byteOffset := 8 }, { name := "Number", type := 2, offset := 2, embedded := Bool.false, tag := "", pkgPath := "", byteOffset := 16 }, { name := "Run", type := 2, offset := 3, embedded := Bool.false, tag := "", pkgPath := "", byteOffset := 24 }]) := ⟨Tryz.underlying32⟩
instance : ZeroOf Tryz.prog 32 (Go.Value.agg #[Go.Value.int Go.IntKind.i64 0, Go.Value.int Go.IntKind.i64 0, Go.Value.int Go.IntKind.i64 0, Go.Value.int Go.IntKind.i64 0]) := ⟨Tryz.zeroValue32⟩
instance : Body Tryz.prog 33 := ⟨Tryz.call33⟩
instance : IsAggT Tryz.prog 33 := ⟨Tryz.isAgg33⟩
instance : SizeOf Tryz.prog 33 4 := ⟨Tryz.sizeOf33⟩
instance : Und Tryz.prog 33 (Go.TypeDesc.struct #[{ name := "Sector", type := 2, offset := 0, embedded := Bool.false, tag := "", pkgPath := "", byteOffset := 0 }, { name := "Offset", type := 3, offset := 1, embedded := Bool.false, tag := "", pkgPath := "", byteOffset := 8 }, { name := "Number", type := 2, offset := 2, embedded := Bool.false, tag := "", pkgPath := "", byteOffset := 16 }, { name := "Run", type := 2, offset := 3, embedded := Bool.false, tag := "", pkgPath := "", byteOffset := 24 }]) := ⟨Tryz.underlying33⟩
instance : ZeroOf Tryz.prog 33 (Go.Value.agg #[Go.Value.int Go.IntKind.i64 0, Go.Value.int Go.IntKind.i64 0, Go.Value.int Go.IntKind.i64 0, Go.Value.int Go.IntKind.i64 0]) := ⟨Tryz.zeroValue33⟩
instance : Body Tryz.prog 34 := ⟨Tryz.call34⟩
instance : IsAggT Tryz.prog 34 := ⟨Tryz.isAgg34⟩
instance : SizeOf Tryz.prog 34 8 := ⟨Tryz.sizeOf34⟩
instance : Und Tryz.prog 34 (Go.TypeDesc.struct #[{ name := "Seq", type := 2, offset := 0, embedded := Bool.false, tag := "", pkgPath := "", byteOffset := 0 }, { name := "Area", type := 3, offset := 1, embedded := Bool.false, tag := "", pkgPath := "", byteOffset := 8 }, { name := "Chunks", type := 3, offset := 2, embedded := Bool.false, tag := "", pkgPath := "", byteOffset := 16 }, { name := "TS", type := 2, offset := 3, embedded := Bool.false, tag := "", pkgPath := "", byteOffset := 24 }, { name := "Mark", type := 33, offset := 4, embedded := Bool.false, tag := "", pkgPath := "", byteOffset := 32 }]) := ⟨Tryz.underlying34⟩
instance : ZeroOf Tryz.prog 34 (Go.Value.agg #[Go.Value.int Go.IntKind.i64 0, Go.Value.int Go.IntKind.i64 0, Go.Value.int Go.IntKind.i64 0, Go.Value.int Go.IntKind.i64 0, Go.Value.int Go.IntKind.i64 0, Go.Value.int Go.IntKind.i64 0, Go.Value.int Go.IntKind.i64 0, Go.Value.int Go.IntKind.i64 0]) := ⟨Tryz.zeroValue34⟩
instance : Body Tryz.prog 35 := ⟨Tryz.call35⟩
instance : IsAggT Tryz.prog 35 := ⟨Tryz.isAgg35⟩
instance : SizeOf Tryz.prog 35 8 := ⟨Tryz.sizeOf35⟩
instance : Und Tryz.prog 35 (Go.TypeDesc.struct #[{ name := "Seq", type := 2, offset := 0, embedded := Bool.false, tag := "", pkgPath := "", byteOffset := 0 }, { name := "Area", type := 3, offset := 1, embedded := Bool.false, tag := "", pkgPath := "", byteOffset := 8 }, { name := "Chunks", type := 3, offset := 2, embedded := Bool.false, tag := "", pkgPath := "", byteOffset := 16 }, { name := "TS", type := 2, offset := 3, embedded := Bool.false, tag := "", pkgPath := "", byteOffset := 24 }, { name := "Mark", type := 33, offset := 4, embedded := Bool.false, tag := "", pkgPath := "", byteOffset := 32 }]) := ⟨Tryz.underlying35⟩
instance : ZeroOf Tryz.prog 35 (Go.Value.agg #[Go.Value.int Go.IntKind.i64 0, Go.Value.int Go.IntKind.i64 0, Go.Value.int Go.IntKind.i64 0, Go.Value.int Go.IntKind.i64 0, Go.Value.int Go.IntKind.i64 0, Go.Value.int Go.IntKind.i64 0, Go.Value.int Go.IntKind.i64 0, Go.Value.int Go.IntKind.i64 0]) := ⟨Tryz.zeroValue35⟩
instance : Body Tryz.prog 36 := ⟨Tryz.call36⟩
instance : NonAgg Tryz.prog 36 := ⟨Tryz.isAgg36⟩
instance : SizeOf Tryz.prog 36 1 := ⟨Tryz.sizeOf36⟩
instance : Und Tryz.prog 36 (Go.TypeDesc.slice 5) := ⟨Tryz.underlying36⟩
instance : ZeroOf Tryz.prog 36 (Go.Value.slice Option.none 0 0) := ⟨Tryz.zeroValue36⟩
instance : Body Tryz.prog 37 := ⟨Tryz.call37⟩
instance : NonAgg Tryz.prog 37 := ⟨Tryz.isAgg37⟩
instance : SizeOf Tryz.prog 37 1 := ⟨Tryz.sizeOf37⟩
instance : Und Tryz.prog 37 (Go.TypeDesc.slice 4) := ⟨Tryz.underlying37⟩
instance : ZeroOf Tryz.prog 37 (Go.Value.slice Option.none 0 0) := ⟨Tryz.zeroValue37⟩
instance : Body Tryz.prog 38 := ⟨Tryz.call38⟩
instance : IsAggT Tryz.prog 38 := ⟨Tryz.isAgg38⟩
instance : SizeOf Tryz.prog 38 13 := ⟨Tryz.sizeOf38⟩
instance : Und Tryz.prog 38 (Go.TypeDesc.struct #[{ name := "Do", type := 3, offset := 0, embedded := Bool.false, tag := "", pkgPath := "", byteOffset := 0 }, { name := "M", type := 35, offset := 1, embedded := Bool.false, tag := "", pkgPath := "", byteOffset := 8 }, { name := "At", type := 3, offset := 9, embedded := Bool.false, tag := "", pkgPath := "", byteOffset := 72 }, { name := "Data", type := 36, offset := 10, embedded := Bool.false, tag := "", pkgPath := "", byteOffset := 80 }, { name := "N", type := 3, offset := 11, embedded := Bool.false, tag := "", pkgPath := "", byteOffset := 104 }, { name := "Keep", type := 37, offset := 12, embedded := Bool.false, tag := "", pkgPath := "", byteOffset := 112 }]) := ⟨Tryz.underlying38⟩
instance : ZeroOf Tryz.prog 38 (Go.Value.agg #[Go.Value.int Go.IntKind.i64 0, Go.Value.int Go.IntKind.i64 0, Go.Value.int Go.IntKind.i64 0, Go.Value.int Go.IntKind.i64 0, Go.Value.int Go.IntKind.i64 0, Go.Value.int Go.IntKind.i64 0, Go.Value.int Go.IntKind.i64 0, Go.Value.int Go.IntKind.i64 0, Go.Value.int Go.IntKind.i64 0, Go.Value.int Go.IntKind.i64 0, Go.Value.slice Option.none 0 0, Go.Value.int Go.IntKind.i64 0, Go.Value.slice Option.none 0 0]) := ⟨Tryz.zeroValue38⟩
instance : Body Tryz.prog 39 := ⟨Tryz.call39⟩
instance : IsAggT Tryz.prog 39 := ⟨Tryz.isAgg39⟩
instance : SizeOf Tryz.prog 39 13 := ⟨Tryz.sizeOf39⟩
instance : Und Tryz.prog 39 (Go.TypeDesc.struct #[{ name := "Do", type := 3, offset := 0, embedded := Bool.false, tag := "", pkgPath := "", byteOffset := 0 }, { name := "M", type := 35, offset := 1, embedded := Bool.false, tag := "", pkgPath := "", byteOffset := 8 }, { name := "At", type := 3, offset := 9, embedded := Bool.false, tag := "", pkgPath := "", byteOffset := 72 }, { name := "Data", type := 36, offset := 10, embedded := Bool.false, tag := "", pkgPath := "", byteOffset := 80 }, { name := "N", type := 3, offset := 11, embedded := Bool.false, tag := "", pkgPath := "", byteOffset := 104 }, { name := "Keep", type := 37, offset := 12, embedded := Bool.false, tag := "", pkgPath := "", byteOffset := 112 }]) := ⟨Tryz.underlying39⟩
instance : ZeroOf Tryz.prog 39 (Go.Value.agg #[Go.Value.int Go.IntKind.i64 0, Go.Value.int Go.IntKind.i64 0, Go.Value.int Go.IntKind.i64 0, Go.Value.int Go.IntKind.i64 0, Go.Value.int Go.IntKind.i64 0, Go.Value.int Go.IntKind.i64 0, Go.Value.int Go.IntKind.i64 0, Go.Value.int Go.IntKind.i64 0, Go.Value.int Go.IntKind.i64 0, Go.Value.int Go.IntKind.i64 0, Go.Value.slice Option.none 0 0, Go.Value.int Go.IntKind.i64 0, Go.Value.slice Option.none 0 0]) := ⟨Tryz.zeroValue39⟩
instance : Body Tryz.prog 40 := ⟨Tryz.call40⟩
instance : NonAgg Tryz.prog 40 := ⟨Tryz.isAgg40⟩
instance : SizeOf Tryz.prog 40 1 := ⟨Tryz.sizeOf40⟩
instance : Und Tryz.prog 40 (Go.TypeDesc.func #[23, 27, 3, 39] #[4] Bool.false) := ⟨Tryz.underlying40⟩
instance : ZeroOf Tryz.prog 40 (Go.Value.nilFunc) := ⟨Tryz.zeroValue40⟩
instance : Body Tryz.prog 41 := ⟨Tryz.call41⟩
instance : NonAgg Tryz.prog 41 := ⟨Tryz.isAgg41⟩
instance : SizeOf Tryz.prog 41 1 := ⟨Tryz.sizeOf41⟩
instance : Und Tryz.prog 41 (Go.TypeDesc.func #[] #[2] Bool.false) := ⟨Tryz.underlying41⟩
instance : ZeroOf Tryz.prog 41 (Go.Value.nilFunc) := ⟨Tryz.zeroValue41⟩
instance : Body Tryz.prog 42 := ⟨Tryz.call42⟩
instance : NonAgg Tryz.prog 42 := ⟨Tryz.isAgg42⟩
instance : SizeOf Tryz.prog 42 1 := ⟨Tryz.sizeOf42⟩
instance : Und Tryz.prog 42 (Go.TypeDesc.func #[3, 3, 22] #[4] Bool.false) := ⟨Tryz.underlying42⟩
instance : ZeroOf Tryz.prog 42 (Go.Value.nilFunc) := ⟨Tryz.zeroValue42⟩
instance : Body Tryz.prog 43 := ⟨Tryz.call43⟩
instance : NonAgg Tryz.prog 43 := ⟨Tryz.isAgg43⟩
instance : SizeOf Tryz.prog 43 1 := ⟨Tryz.sizeOf43⟩
instance : Und Tryz.prog 43 (Go.TypeDesc.slice 48) := ⟨Tryz.underlying43⟩
instance : ZeroOf Tryz.prog 43 (Go.Value.slice Option.none 0 0) := ⟨Tryz.zeroValue43⟩
instance : Body Tryz.prog 44 := ⟨Tryz.call44⟩
instance : NonAgg Tryz.prog 44 := ⟨Tryz.isAgg44⟩
instance : SizeOf Tryz.prog 44 1 := ⟨Tryz.sizeOf44⟩
instance : Und Tryz.prog 44 (Go.TypeDesc.pointer 53) := ⟨Tryz.underlying44⟩
instance : ZeroOf Tryz.prog 44 (Go.Value.pointer Option.none) := ⟨Tryz.zeroValue44⟩
instance : Body Tryz.prog 45 := ⟨Tryz.call45⟩
instance : NonAgg Tryz.prog 45 := ⟨Tryz.isAgg45⟩
instance : SizeOf Tryz.prog 45 1 := ⟨Tryz.sizeOf45⟩
instance : Und Tryz.prog 45 (Go.TypeDesc.tuple #[44, 4]) := ⟨Tryz.underlying45⟩
instance : ZeroOf Tryz.prog 45 (Go.Value.tuple #[Go.Value.pointer Option.none, Go.Value.bool Bool.false]) := ⟨Tryz.zeroValue45⟩
instance : Body Tryz.prog 46 := ⟨Tryz.call46⟩
instance : NonAgg Tryz.prog 46 := ⟨Tryz.isAgg46⟩
instance : SizeOf Tryz.prog 46 1 := ⟨Tryz.sizeOf46⟩
instance : Und Tryz.prog 46 (Go.TypeDesc.func #[] #[44, 4] Bool.false) := ⟨Tryz.underlying46⟩
instance : ZeroOf Tryz.prog 46 (Go.Value.nilFunc) := ⟨Tryz.zeroValue46⟩
instance : Body Tryz.prog 47 := ⟨Tryz.call47⟩
instance : IsAggT Tryz.prog 47 := ⟨Tryz.isAgg47⟩
instance : SizeOf Tryz.prog 47 9 := ⟨Tryz.sizeOf47⟩
instance : Und Tryz.prog 47 (Go.TypeDesc.struct #[{ name := "Kind", type := 3, offset := 0, embedded := Bool.false, tag := "", pkgPath := "", byteOffset := 0 }, { name := "Data", type := 36, offset := 1, embedded := Bool.false, tag := "", pkgPath := "", byteOffset := 8 }, { name := "N", type := 3, offset := 2, embedded := Bool.false, tag := "", pkgPath := "", byteOffset := 32 }, { name := "Keep", type := 37, offset := 3, embedded := Bool.false, tag := "", pkgPath := "", byteOffset := 40 }, { name := "Mark", type := 33, offset := 4, embedded := Bool.false, tag := "", pkgPath := "", byteOffset := 64 }, { name := "Raw", type := 4, offset := 8, embedded := Bool.false, tag := "", pkgPath := "", byteOffset := 96 }]) := ⟨Tryz.underlying47⟩
instance : ZeroOf Tryz.prog 47 (Go.Value.agg #[Go.Value.int Go.IntKind.i64 0, Go.Value.slice Option.none 0 0, Go.Value.int Go.IntKind.i64 0, Go.Value.slice Option.none 0 0, Go.Value.int Go.IntKind.i64 0, Go.Value.int Go.IntKind.i64 0, Go.Value.int Go.IntKind.i64 0, Go.Value.int Go.IntKind.i64 0, Go.Value.bool Bool.false]) := ⟨Tryz.zeroValue47⟩
instance : Body Tryz.prog 48 := ⟨Tryz.call48⟩
instance : IsAggT Tryz.prog 48 := ⟨Tryz.isAgg48⟩
instance : SizeOf Tryz.prog 48 9 := ⟨Tryz.sizeOf48⟩
instance : Und Tryz.prog 48 (Go.TypeDesc.struct #[{ name := "Kind", type := 3, offset := 0, embedded := Bool.false, tag := "", pkgPath := "", byteOffset := 0 }, { name := "Data", type := 36, offset := 1, embedded := Bool.false, tag := "", pkgPath := "", byteOffset := 8 }, { name := "N", type := 3, offset := 2, embedded := Bool.false, tag := "", pkgPath := "", byteOffset := 32 }, { name := "Keep", type := 37, offset := 3, embedded := Bool.false, tag := "", pkgPath := "", byteOffset := 40 }, { name := "Mark", type := 33, offset := 4, embedded := Bool.false, tag := "", pkgPath := "", byteOffset := 64 }, { name := "Raw", type := 4, offset := 8, embedded := Bool.false, tag := "", pkgPath := "", byteOffset := 96 }]) := ⟨Tryz.underlying48⟩
instance : ZeroOf Tryz.prog 48 (Go.Value.agg #[Go.Value.int Go.IntKind.i64 0, Go.Value.slice Option.none 0 0, Go.Value.int Go.IntKind.i64 0, Go.Value.slice Option.none 0 0, Go.Value.int Go.IntKind.i64 0, Go.Value.int Go.IntKind.i64 0, Go.Value.int Go.IntKind.i64 0, Go.Value.int Go.IntKind.i64 0, Go.Value.bool Bool.false]) := ⟨Tryz.zeroValue48⟩
instance : Body Tryz.prog 49 := ⟨Tryz.call49⟩
instance : NonAgg Tryz.prog 49 := ⟨Tryz.isAgg49⟩
instance : SizeOf Tryz.prog 49 1 := ⟨Tryz.sizeOf49⟩
instance : Und Tryz.prog 49 (Go.TypeDesc.func #[48] #[4] Bool.false) := ⟨Tryz.underlying49⟩
instance : ZeroOf Tryz.prog 49 (Go.Value.nilFunc) := ⟨Tryz.zeroValue49⟩
instance : Body Tryz.prog 50 := ⟨Tryz.call50⟩
instance : NonAgg Tryz.prog 50 := ⟨Tryz.isAgg50⟩
instance : SizeOf Tryz.prog 50 1 := ⟨Tryz.sizeOf50⟩
instance : Und Tryz.prog 50 (Go.TypeDesc.pointer 104) := ⟨Tryz.underlying50⟩
instance : ZeroOf Tryz.prog 50 (Go.Value.pointer Option.none) := ⟨Tryz.zeroValue50⟩
instance : Body Tryz.prog 51 := ⟨Tryz.call51⟩
instance : NonAgg Tryz.prog 51 := ⟨Tryz.isAgg51⟩
instance : SizeOf Tryz.prog 51 1 := ⟨Tryz.sizeOf51⟩
instance : Und Tryz.prog 51 (Go.TypeDesc.pointer 135) := ⟨Tryz.underlying51⟩
instance : ZeroOf Tryz.prog 51 (Go.Value.pointer Option.none) := ⟨Tryz.zeroValue51⟩
instance : Body Tryz.prog 52 := ⟨Tryz.call52⟩
instance : IsAggT Tryz.prog 52 := ⟨Tryz.isAgg52⟩
instance : SizeOf Tryz.prog 52 4 := ⟨Tryz.sizeOf52⟩
instance : Und Tryz.prog 52 (Go.TypeDesc.struct #[{ name := "d", type := 23, offset := 0, embedded := Bool.false, tag := "", pkgPath := "cresset/cressetlaw17", byteOffset := 0 }, { name := "l", type := 50, offset := 1, embedded := Bool.false, tag := "", pkgPath := "cresset/cressetlaw17", byteOffset := 8 }, { name := "g", type := 27, offset := 2, embedded := Bool.false, tag := "", pkgPath := "cresset/cressetlaw17", byteOffset := 16 }, { name := "w", type := 51, offset := 3, embedded := Bool.false, tag := "", pkgPath := "cresset/cressetlaw17", byteOffset := 24 }]) := ⟨Tryz.underlying52⟩
instance : ZeroOf Tryz.prog 52 (Go.Value.agg #[Go.Value.pointer Option.none, Go.Value.pointer Option.none, Go.Value.pointer Option.none, Go.Value.pointer Option.none]) := ⟨Tryz.zeroValue52⟩
instance : Body Tryz.prog 53 := ⟨Tryz.call53⟩
instance : IsAggT Tryz.prog 53 := ⟨Tryz.isAgg53⟩
instance : SizeOf Tryz.prog 53 4 := ⟨Tryz.sizeOf53⟩
instance : Und Tryz.prog 53 (Go.TypeDesc.struct #[{ name := "d", type := 23, offset := 0, embedded := Bool.false, tag := "", pkgPath := "cresset/cressetlaw17", byteOffset := 0 }, { name := "l", type := 50, offset := 1, embedded := Bool.false, tag := "", pkgPath := "cresset/cressetlaw17", byteOffset := 8 }, { name := "g", type := 27, offset := 2, embedded := Bool.false, tag := "", pkgPath := "cresset/cressetlaw17", byteOffset := 16 }, { name := "w", type := 51, offset := 3, embedded := Bool.false, tag := "", pkgPath := "cresset/cressetlaw17", byteOffset := 24 }]) := ⟨Tryz.underlying53⟩
instance : ZeroOf Tryz.prog 53 (Go.Value.agg #[Go.Value.pointer Option.none, Go.Value.pointer Option.none, Go.Value.pointer Option.none, Go.Value.pointer Option.none]) := ⟨Tryz.zeroValue53⟩
instance : Body Tryz.prog 54 := ⟨Tryz.call54⟩
instance : NonAgg Tryz.prog 54 := ⟨Tryz.isAgg54⟩
instance : SizeOf Tryz.prog 54 1 := ⟨Tryz.sizeOf54⟩
instance : Und Tryz.prog 54 (Go.TypeDesc.func #[] #[24] Bool.false) := ⟨Tryz.underlying54⟩
instance : ZeroOf Tryz.prog 54 (Go.Value.nilFunc) := ⟨Tryz.zeroValue54⟩
instance : Body Tryz.prog 55 := ⟨Tryz.call55⟩
instance : NonAgg Tryz.prog 55 := ⟨Tryz.isAgg55⟩
instance : SizeOf Tryz.prog 55 1 := ⟨Tryz.sizeOf55⟩
instance : Und Tryz.prog 55 (Go.TypeDesc.func #[] #[23] Bool.false) := ⟨Tryz.underlying55⟩
instance : ZeroOf Tryz.prog 55 (Go.Value.nilFunc) := ⟨Tryz.zeroValue55⟩
instance : Body Tryz.prog 56 := ⟨Tryz.call56⟩
instance : NonAgg Tryz.prog 56 := ⟨Tryz.isAgg56⟩
instance : SizeOf Tryz.prog 56 1 := ⟨Tryz.sizeOf56⟩
instance : Und Tryz.prog 56 (Go.TypeDesc.func #[] #[33] Bool.false) := ⟨Tryz.underlying56⟩
instance : ZeroOf Tryz.prog 56 (Go.Value.nilFunc) := ⟨Tryz.zeroValue56⟩
instance : Body Tryz.prog 57 := ⟨Tryz.call57⟩
instance : NonAgg Tryz.prog 57 := ⟨Tryz.isAgg57⟩
instance : SizeOf Tryz.prog 57 1 := ⟨Tryz.sizeOf57⟩
instance : Und Tryz.prog 57 (Go.TypeDesc.tuple #[50, 24]) := ⟨Tryz.underlying57⟩
instance : ZeroOf Tryz.prog 57 (Go.Value.tuple #[Go.Value.pointer Option.none, Go.Value.int Go.IntKind.i64 0]) := ⟨Tryz.zeroValue57⟩
instance : Body Tryz.prog 58 := ⟨Tryz.call58⟩
instance : NonAgg Tryz.prog 58 := ⟨Tryz.isAgg58⟩
instance : SizeOf Tryz.prog 58 1 := ⟨Tryz.sizeOf58⟩
instance : Und Tryz.prog 58 (Go.TypeDesc.func #[23, 3, 3, 33] #[50, 24] Bool.false) := ⟨Tryz.underlying58⟩
instance : ZeroOf Tryz.prog 58 (Go.Value.nilFunc) := ⟨Tryz.zeroValue58⟩
instance : Body Tryz.prog 59 := ⟨Tryz.call59⟩
instance : NonAgg Tryz.prog 59 := ⟨Tryz.isAgg59⟩
instance : SizeOf Tryz.prog 59 1 := ⟨Tryz.sizeOf59⟩
instance : Und Tryz.prog 59 (Go.TypeDesc.slice 36) := ⟨Tryz.underlying59⟩
instance : ZeroOf Tryz.prog 59 (Go.Value.slice Option.none 0 0) := ⟨Tryz.zeroValue59⟩
instance : Body Tryz.prog 60 := ⟨Tryz.call60⟩
instance : NonAgg Tryz.prog 60 := ⟨Tryz.isAgg60⟩
instance : SizeOf Tryz.prog 60 1 := ⟨Tryz.sizeOf60⟩
instance : Und Tryz.prog 60 (Go.TypeDesc.func #[120] #[] Bool.false) := ⟨Tryz.underlying60⟩
instance : ZeroOf Tryz.prog 60 (Go.Value.nilFunc) := ⟨Tryz.zeroValue60⟩
instance : Body Tryz.prog 61 := ⟨Tryz.call61⟩
instance : NonAgg Tryz.prog 61 := ⟨Tryz.isAgg61⟩
instance : SizeOf Tryz.prog 61 1 := ⟨Tryz.sizeOf61⟩
instance : Und Tryz.prog 61 (Go.TypeDesc.func #[120] #[] Bool.false) := ⟨Tryz.underlying61⟩
instance : ZeroOf Tryz.prog 61 (Go.Value.nilFunc) := ⟨Tryz.zeroValue61⟩
instance : Body Tryz.prog 62 := ⟨Tryz.call62⟩
instance : NonAgg Tryz.prog 62 := ⟨Tryz.isAgg62⟩
instance : SizeOf Tryz.prog 62 1 := ⟨Tryz.sizeOf62⟩
instance : Und Tryz.prog 62 (Go.TypeDesc.func #[] #[61] Bool.false) := ⟨Tryz.underlying62⟩
instance : ZeroOf Tryz.prog 62 (Go.Value.nilFunc) := ⟨Tryz.zeroValue62⟩
instance : Body Tryz.prog 63 := ⟨Tryz.call63⟩
instance : NonAgg Tryz.prog 63 := ⟨Tryz.isAgg63⟩
instance : SizeOf Tryz.prog 63 1 := ⟨Tryz.sizeOf63⟩
instance : Und Tryz.prog 63 (Go.TypeDesc.func #[36, 36] #[4] Bool.false) := ⟨Tryz.underlying63⟩
instance : ZeroOf Tryz.prog 63 (Go.Value.nilFunc) := ⟨Tryz.zeroValue63⟩
instance : Body Tryz.prog 64 := ⟨Tryz.call64⟩
instance : NonAgg Tryz.prog 64 := ⟨Tryz.isAgg64⟩
instance : SizeOf Tryz.prog 64 1 := ⟨Tryz.sizeOf64⟩
instance : Und Tryz.prog 64 (Go.TypeDesc.func #[23, 23] #[4] Bool.false) := ⟨Tryz.underlying64⟩
instance : ZeroOf Tryz.prog 64 (Go.Value.nilFunc) := ⟨Tryz.zeroValue64⟩
instance : Body Tryz.prog 65 := ⟨Tryz.call65⟩
instance : NonAgg Tryz.prog 65 := ⟨Tryz.isAgg65⟩
instance : SizeOf Tryz.prog 65 1 := ⟨Tryz.sizeOf65⟩
instance : Und Tryz.prog 65 (Go.TypeDesc.func #[43] #[4] Bool.false) := ⟨Tryz.underlying65⟩
instance : ZeroOf Tryz.prog 65 (Go.Value.nilFunc) := ⟨Tryz.zeroValue65⟩
instance : Body Tryz.prog 66 := ⟨Tryz.call66⟩
instance : NonAgg Tryz.prog 66 := ⟨Tryz.isAgg66⟩
instance : SizeOf Tryz.prog 66 1 := ⟨Tryz.sizeOf66⟩
instance : Und Tryz.prog 66 (Go.TypeDesc.map 3 36) := ⟨Tryz.underlying66⟩
instance : ZeroOf Tryz.prog 66 (Go.Value.map Option.none) := ⟨Tryz.zeroValue66⟩
instance : Body Tryz.prog 67 := ⟨Tryz.call67⟩
instance : IsAggT Tryz.prog 67 := ⟨Tryz.isAgg67⟩
instance : SizeOf Tryz.prog 67 6 := ⟨Tryz.sizeOf67⟩
instance : Und Tryz.prog 67 (Go.TypeDesc.struct #[{ name := "sure", type := 59, offset := 0, embedded := Bool.false, tag := "", pkgPath := "cresset/disk", byteOffset := 0 }, { name := "dirty", type := 66, offset := 1, embedded := Bool.false, tag := "", pkgPath := "cresset/disk", byteOffset := 24 }, { name := "down", type := 4, offset := 2, embedded := Bool.false, tag := "", pkgPath := "cresset/disk", byteOffset := 32 }, { name := "calls", type := 2, offset := 3, embedded := Bool.false, tag := "", pkgPath := "cresset/disk", byteOffset := 40 }, { name := "fuse", type := 3, offset := 4, embedded := Bool.false, tag := "", pkgPath := "cresset/disk", byteOffset := 48 }, { name := "keep", type := 37, offset := 5, embedded := Bool.false, tag := "", pkgPath := "cresset/disk", byteOffset := 56 }]) := ⟨Tryz.underlying67⟩
instance : ZeroOf Tryz.prog 67 (Go.Value.agg #[Go.Value.slice Option.none 0 0, Go.Value.map Option.none, Go.Value.bool Bool.false, Go.Value.int Go.IntKind.i64 0, Go.Value.int Go.IntKind.i64 0, Go.Value.slice Option.none 0 0]) := ⟨Tryz.zeroValue67⟩
instance : Body Tryz.prog 68 := ⟨Tryz.call68⟩
instance : IsAggT Tryz.prog 68 := ⟨Tryz.isAgg68⟩
instance : SizeOf Tryz.prog 68 6 := ⟨Tryz.sizeOf68⟩
instance : Und Tryz.prog 68 (Go.TypeDesc.struct #[{ name := "sure", type := 59, offset := 0, embedded := Bool.false, tag := "", pkgPath := "cresset/disk", byteOffset := 0 }, { name := "dirty", type := 66, offset := 1, embedded := Bool.false, tag := "", pkgPath := "cresset/disk", byteOffset := 24 }, { name := "down", type := 4, offset := 2, embedded := Bool.false, tag := "", pkgPath := "cresset/disk", byteOffset := 32 }, { name := "calls", type := 2, offset := 3, embedded := Bool.false, tag := "", pkgPath := "cresset/disk", byteOffset := 40 }, { name := "fuse", type := 3, offset := 4, embedded := Bool.false, tag := "", pkgPath := "cresset/disk", byteOffset := 48 }, { name := "keep", type := 37, offset := 5, embedded := Bool.false, tag := "", pkgPath := "cresset/disk", byteOffset := 56 }]) := ⟨Tryz.underlying68⟩
instance : ZeroOf Tryz.prog 68 (Go.Value.agg #[Go.Value.slice Option.none 0 0, Go.Value.map Option.none, Go.Value.bool Bool.false, Go.Value.int Go.IntKind.i64 0, Go.Value.int Go.IntKind.i64 0, Go.Value.slice Option.none 0 0]) := ⟨Tryz.zeroValue68⟩
instance : Body Tryz.prog 69 := ⟨Tryz.call69⟩
instance : NonAgg Tryz.prog 69 := ⟨Tryz.isAgg69⟩
instance : SizeOf Tryz.prog 69 1 := ⟨Tryz.sizeOf69⟩
instance : Und Tryz.prog 69 (Go.TypeDesc.slice 9) := ⟨Tryz.underlying69⟩
instance : ZeroOf Tryz.prog 69 (Go.Value.slice Option.none 0 0) := ⟨Tryz.zeroValue69⟩
instance : Body Tryz.prog 70 := ⟨Tryz.call70⟩
instance : IsAggT Tryz.prog 70 := ⟨Tryz.isAgg70⟩
instance : SizeOf Tryz.prog 70 7 := ⟨Tryz.sizeOf70⟩
instance : Und Tryz.prog 70 (Go.TypeDesc.struct #[{ name := "now", type := 69, offset := 0, embedded := Bool.false, tag := "", pkgPath := "cresset/cressetref02", byteOffset := 0 }, { name := "sure", type := 69, offset := 1, embedded := Bool.false, tag := "", pkgPath := "cresset/cressetref02", byteOffset := 24 }, { name := "dirty", type := 37, offset := 2, embedded := Bool.false, tag := "", pkgPath := "cresset/cressetref02", byteOffset := 48 }, { name := "fuse", type := 3, offset := 3, embedded := Bool.false, tag := "", pkgPath := "cresset/cressetref02", byteOffset := 72 }, { name := "keep", type := 37, offset := 4, embedded := Bool.false, tag := "", pkgPath := "cresset/cressetref02", byteOffset := 80 }, { name := "calls", type := 2, offset := 5, embedded := Bool.false, tag := "", pkgPath := "cresset/cressetref02", byteOffset := 104 }, { name := "down", type := 4, offset := 6, embedded := Bool.false, tag := "", pkgPath := "cresset/cressetref02", byteOffset := 112 }]) := ⟨Tryz.underlying70⟩
instance : ZeroOf Tryz.prog 70 (Go.Value.agg #[Go.Value.slice Option.none 0 0, Go.Value.slice Option.none 0 0, Go.Value.slice Option.none 0 0, Go.Value.int Go.IntKind.i64 0, Go.Value.slice Option.none 0 0, Go.Value.int Go.IntKind.i64 0, Go.Value.bool Bool.false]) := ⟨Tryz.zeroValue70⟩
instance : Body Tryz.prog 71 := ⟨Tryz.call71⟩
instance : IsAggT Tryz.prog 71 := ⟨Tryz.isAgg71⟩
instance : SizeOf Tryz.prog 71 7 := ⟨Tryz.sizeOf71⟩
instance : Und Tryz.prog 71 (Go.TypeDesc.struct #[{ name := "now", type := 69, offset := 0, embedded := Bool.false, tag := "", pkgPath := "cresset/cressetref02", byteOffset := 0 }, { name := "sure", type := 69, offset := 1, embedded := Bool.false, tag := "", pkgPath := "cresset/cressetref02", byteOffset := 24 }, { name := "dirty", type := 37, offset := 2, embedded := Bool.false, tag := "", pkgPath := "cresset/cressetref02", byteOffset := 48 }, { name := "fuse", type := 3, offset := 3, embedded := Bool.false, tag := "", pkgPath := "cresset/cressetref02", byteOffset := 72 }, { name := "keep", type := 37, offset := 4, embedded := Bool.false, tag := "", pkgPath := "cresset/cressetref02", byteOffset := 80 }, { name := "calls", type := 2, offset := 5, embedded := Bool.false, tag := "", pkgPath := "cresset/cressetref02", byteOffset := 104 }, { name := "down", type := 4, offset := 6, embedded := Bool.false, tag := "", pkgPath := "cresset/cressetref02", byteOffset := 112 }]) := ⟨Tryz.underlying71⟩
instance : ZeroOf Tryz.prog 71 (Go.Value.agg #[Go.Value.slice Option.none 0 0, Go.Value.slice Option.none 0 0, Go.Value.slice Option.none 0 0, Go.Value.int Go.IntKind.i64 0, Go.Value.slice Option.none 0 0, Go.Value.int Go.IntKind.i64 0, Go.Value.bool Bool.false]) := ⟨Tryz.zeroValue71⟩
instance : Body Tryz.prog 72 := ⟨Tryz.call72⟩
instance : NonAgg Tryz.prog 72 := ⟨Tryz.isAgg72⟩
instance : SizeOf Tryz.prog 72 1 := ⟨Tryz.sizeOf72⟩
instance : Und Tryz.prog 72 (Go.TypeDesc.tuple #[35, 24]) := ⟨Tryz.underlying72⟩
instance : ZeroOf Tryz.prog 72 (Go.Value.tuple #[Go.Value.agg #[Go.Value.int Go.IntKind.i64 0, Go.Value.int Go.IntKind.i64 0, Go.Value.int Go.IntKind.i64 0, Go.Value.int Go.IntKind.i64 0, Go.Value.int Go.IntKind.i64 0, Go.Value.int Go.IntKind.i64 0, Go.Value.int Go.IntKind.i64 0, Go.Value.int Go.IntKind.i64 0], Go.Value.int Go.IntKind.i64 0]) := ⟨Tryz.zeroValue72⟩
instance : Body Tryz.prog 73 := ⟨Tryz.call73⟩
instance : NonAgg Tryz.prog 73 := ⟨Tryz.isAgg73⟩
instance : SizeOf Tryz.prog 73 1 := ⟨Tryz.sizeOf73⟩
instance : Und Tryz.prog 73 (Go.TypeDesc.func #[23, 3] #[35, 24] Bool.false) := ⟨Tryz.underlying73⟩
instance : ZeroOf Tryz.prog 73 (Go.Value.nilFunc) := ⟨Tryz.zeroValue73⟩
instance : Body Tryz.prog 74 := ⟨Tryz.call74⟩
instance : NonAgg Tryz.prog 74 := ⟨Tryz.isAgg74⟩
instance : SizeOf Tryz.prog 74 1 := ⟨Tryz.sizeOf74⟩
instance : Und Tryz.prog 74 (Go.TypeDesc.func #[23, 3, 35] #[24] Bool.false) := ⟨Tryz.underlying74⟩
instance : ZeroOf Tryz.prog 74 (Go.Value.nilFunc) := ⟨Tryz.zeroValue74⟩
instance : Body Tryz.prog 75 := ⟨Tryz.call75⟩
instance : NonAgg Tryz.prog 75 := ⟨Tryz.isAgg75⟩
instance : SizeOf Tryz.prog 75 1 := ⟨Tryz.sizeOf75⟩
instance : Und Tryz.prog 75 (Go.TypeDesc.func #[] #[35] Bool.false) := ⟨Tryz.underlying75⟩
instance : ZeroOf Tryz.prog 75 (Go.Value.nilFunc) := ⟨Tryz.zeroValue75⟩
instance : Body Tryz.prog 76 := ⟨Tryz.call76⟩
instance : NonAgg Tryz.prog 76 := ⟨Tryz.isAgg76⟩
instance : SizeOf Tryz.prog 76 1 := ⟨Tryz.sizeOf76⟩
instance : Und Tryz.prog 76 (Go.TypeDesc.func #[27, 3, 35] #[24] Bool.false) := ⟨Tryz.underlying76⟩
instance : ZeroOf Tryz.prog 76 (Go.Value.nilFunc) := ⟨Tryz.zeroValue76⟩
instance : Body Tryz.prog 77 := ⟨Tryz.call77⟩
instance : NonAgg Tryz.prog 77 := ⟨Tryz.isAgg77⟩
instance : SizeOf Tryz.prog 77 1 := ⟨Tryz.sizeOf77⟩
instance : Und Tryz.prog 77 (Go.TypeDesc.func #[3, 36] #[24] Bool.true) := ⟨Tryz.underlying77⟩
instance : ZeroOf Tryz.prog 77 (Go.Value.nilFunc) := ⟨Tryz.zeroValue77⟩
instance : Body Tryz.prog 78 := ⟨Tryz.call78⟩
instance : NonAgg Tryz.prog 78 := ⟨Tryz.isAgg78⟩
instance : SizeOf Tryz.prog 78 1 := ⟨Tryz.sizeOf78⟩
instance : Und Tryz.prog 78 (Go.TypeDesc.func #[36] #[36] Bool.false) := ⟨Tryz.underlying78⟩
instance : ZeroOf Tryz.prog 78 (Go.Value.nilFunc) := ⟨Tryz.zeroValue78⟩
instance : Body Tryz.prog 79 := ⟨Tryz.call79⟩
instance : NonAgg Tryz.prog 79 := ⟨Tryz.isAgg79⟩
instance : SizeOf Tryz.prog 79 1 := ⟨Tryz.sizeOf79⟩
instance : Und Tryz.prog 79 (Go.TypeDesc.func #[3, 36] #[24] Bool.false) := ⟨Tryz.underlying79⟩
instance : ZeroOf Tryz.prog 79 (Go.Value.nilFunc) := ⟨Tryz.zeroValue79⟩
instance : Body Tryz.prog 80 := ⟨Tryz.call80⟩
instance : NonAgg Tryz.prog 80 := ⟨Tryz.isAgg80⟩
instance : SizeOf Tryz.prog 80 1 := ⟨Tryz.sizeOf80⟩
instance : Und Tryz.prog 80 (Go.TypeDesc.func #[37] #[24] Bool.true) := ⟨Tryz.underlying80⟩
instance : ZeroOf Tryz.prog 80 (Go.Value.nilFunc) := ⟨Tryz.zeroValue80⟩
instance : Body Tryz.prog 81 := ⟨Tryz.call81⟩
instance : NonAgg Tryz.prog 81 := ⟨Tryz.isAgg81⟩
instance : SizeOf Tryz.prog 81 1 := ⟨Tryz.sizeOf81⟩
instance : Und Tryz.prog 81 (Go.TypeDesc.func #[37] #[24] Bool.false) := ⟨Tryz.underlying81⟩
instance : ZeroOf Tryz.prog 81 (Go.Value.nilFunc) := ⟨Tryz.zeroValue81⟩
instance : Body Tryz.prog 82 := ⟨Tryz.call82⟩
instance : NonAgg Tryz.prog 82 := ⟨Tryz.isAgg82⟩
instance : SizeOf Tryz.prog 82 1 := ⟨Tryz.sizeOf82⟩
instance : Und Tryz.prog 82 (Go.TypeDesc.func #[3, 37] #[24] Bool.true) := ⟨Tryz.underlying82⟩
instance : ZeroOf Tryz.prog 82 (Go.Value.nilFunc) := ⟨Tryz.zeroValue82⟩
instance : Body Tryz.prog 83 := ⟨Tryz.call83⟩
instance : NonAgg Tryz.prog 83 := ⟨Tryz.isAgg83⟩
instance : SizeOf Tryz.prog 83 1 := ⟨Tryz.sizeOf83⟩
instance : Und Tryz.prog 83 (Go.TypeDesc.func #[3, 37] #[24] Bool.false) := ⟨Tryz.underlying83⟩
instance : ZeroOf Tryz.prog 83 (Go.Value.nilFunc) := ⟨Tryz.zeroValue83⟩
instance : Body Tryz.prog 84 := ⟨Tryz.call84⟩
instance : NonAgg Tryz.prog 84 := ⟨Tryz.isAgg84⟩
instance : SizeOf Tryz.prog 84 1 := ⟨Tryz.sizeOf84⟩
instance : Und Tryz.prog 84 (Go.TypeDesc.func #[27, 3] #[35, 24] Bool.false) := ⟨Tryz.underlying84⟩
instance : ZeroOf Tryz.prog 84 (Go.Value.nilFunc) := ⟨Tryz.zeroValue84⟩
instance : Body Tryz.prog 85 := ⟨Tryz.call85⟩
instance : IsAggT Tryz.prog 85 := ⟨Tryz.isAgg85⟩
instance : SizeOf Tryz.prog 85 16 := ⟨Tryz.sizeOf85⟩
instance : Und Tryz.prog 85 (Go.TypeDesc.array 2 35) := ⟨Tryz.underlying85⟩
instance : ZeroOf Tryz.prog 85 (Go.Value.agg #[Go.Value.int Go.IntKind.i64 0, Go.Value.int Go.IntKind.i64 0, Go.Value.int Go.IntKind.i64 0, Go.Value.int Go.IntKind.i64 0, Go.Value.int Go.IntKind.i64 0, Go.Value.int Go.IntKind.i64 0, Go.Value.int Go.IntKind.i64 0, Go.Value.int Go.IntKind.i64 0, Go.Value.int Go.IntKind.i64 0, Go.Value.int Go.IntKind.i64 0, Go.Value.int Go.IntKind.i64 0, Go.Value.int Go.IntKind.i64 0, Go.Value.int Go.IntKind.i64 0, Go.Value.int Go.IntKind.i64 0, Go.Value.int Go.IntKind.i64 0, Go.Value.int Go.IntKind.i64 0]) := ⟨Tryz.zeroValue85⟩
instance : Body Tryz.prog 86 := ⟨Tryz.call86⟩
instance : IsAggT Tryz.prog 86 := ⟨Tryz.isAgg86⟩
instance : SizeOf Tryz.prog 86 2 := ⟨Tryz.sizeOf86⟩
instance : Und Tryz.prog 86 (Go.TypeDesc.array 2 24) := ⟨Tryz.underlying86⟩
instance : ZeroOf Tryz.prog 86 (Go.Value.agg #[Go.Value.int Go.IntKind.i64 0, Go.Value.int Go.IntKind.i64 0]) := ⟨Tryz.zeroValue86⟩
instance : Body Tryz.prog 87 := ⟨Tryz.call87⟩
instance : NonAgg Tryz.prog 87 := ⟨Tryz.isAgg87⟩
instance : SizeOf Tryz.prog 87 1 := ⟨Tryz.sizeOf87⟩
instance : Und Tryz.prog 87 (Go.TypeDesc.tuple #[85, 86]) := ⟨Tryz.underlying87⟩
instance : ZeroOf Tryz.prog 87 (Go.Value.tuple #[Go.Value.agg #[Go.Value.int Go.IntKind.i64 0, Go.Value.int Go.IntKind.i64 0, Go.Value.int Go.IntKind.i64 0, Go.Value.int Go.IntKind.i64 0, Go.Value.int Go.IntKind.i64 0, Go.Value.int Go.IntKind.i64 0, Go.Value.int Go.IntKind.i64 0, Go.Value.int Go.IntKind.i64 0, Go.Value.int Go.IntKind.i64 0, Go.Value.int Go.IntKind.i64 0, Go.Value.int Go.IntKind.i64 0, Go.Value.int Go.IntKind.i64 0, Go.Value.int Go.IntKind.i64 0, Go.Value.int Go.IntKind.i64 0, Go.Value.int Go.IntKind.i64 0, Go.Value.int Go.IntKind.i64 0], Go.Value.agg #[Go.Value.int Go.IntKind.i64 0, Go.Value.int Go.IntKind.i64 0]]) := ⟨Tryz.zeroValue87⟩
instance : Body Tryz.prog 88 := ⟨Tryz.call88⟩
instance : NonAgg Tryz.prog 88 := ⟨Tryz.isAgg88⟩
instance : SizeOf Tryz.prog 88 1 := ⟨Tryz.sizeOf88⟩
instance : Und Tryz.prog 88 (Go.TypeDesc.func #[23, 3] #[85, 86] Bool.false) := ⟨Tryz.underlying88⟩
instance : ZeroOf Tryz.prog 88 (Go.Value.nilFunc) := ⟨Tryz.zeroValue88⟩
instance : Body Tryz.prog 89 := ⟨Tryz.call89⟩
instance : NonAgg Tryz.prog 89 := ⟨Tryz.isAgg89⟩
instance : SizeOf Tryz.prog 89 1 := ⟨Tryz.sizeOf89⟩
instance : Und Tryz.prog 89 (Go.TypeDesc.func #[27, 3] #[85, 86] Bool.false) := ⟨Tryz.underlying89⟩
instance : ZeroOf Tryz.prog 89 (Go.Value.nilFunc) := ⟨Tryz.zeroValue89⟩
instance : Body Tryz.prog 90 := ⟨Tryz.call90⟩
instance : NonAgg Tryz.prog 90 := ⟨Tryz.isAgg90⟩
instance : SizeOf Tryz.prog 90 1 := ⟨Tryz.sizeOf90⟩
instance : Und Tryz.prog 90 (Go.TypeDesc.func #[33] #[4] Bool.false) := ⟨Tryz.underlying90⟩
instance : ZeroOf Tryz.prog 90 (Go.Value.nilFunc) := ⟨Tryz.zeroValue90⟩
instance : Body Tryz.prog 91 := ⟨Tryz.call91⟩
instance : NonAgg Tryz.prog 91 := ⟨Tryz.isAgg91⟩
instance : SizeOf Tryz.prog 91 1 := ⟨Tryz.sizeOf91⟩
instance : Und Tryz.prog 91 (Go.TypeDesc.tuple #[2, 24]) := ⟨Tryz.underlying91⟩
instance : ZeroOf Tryz.prog 91 (Go.Value.tuple #[Go.Value.int Go.IntKind.i64 0, Go.Value.int Go.IntKind.i64 0]) := ⟨Tryz.zeroValue91⟩
instance : Body Tryz.prog 92 := ⟨Tryz.call92⟩
instance : NonAgg Tryz.prog 92 := ⟨Tryz.isAgg92⟩
instance : SizeOf Tryz.prog 92 1 := ⟨Tryz.sizeOf92⟩
instance : Und Tryz.prog 92 (Go.TypeDesc.func #[36] #[2, 24] Bool.true) := ⟨Tryz.underlying92⟩
instance : ZeroOf Tryz.prog 92 (Go.Value.nilFunc) := ⟨Tryz.zeroValue92⟩
instance : Body Tryz.prog 93 := ⟨Tryz.call93⟩
instance : NonAgg Tryz.prog 93 := ⟨Tryz.isAgg93⟩
instance : SizeOf Tryz.prog 93 1 := ⟨Tryz.sizeOf93⟩
instance : Und Tryz.prog 93 (Go.TypeDesc.func #[36] #[2, 24] Bool.false) := ⟨Tryz.underlying93⟩
instance : ZeroOf Tryz.prog 93 (Go.Value.nilFunc) := ⟨Tryz.zeroValue93⟩
instance : NonAgg Tryz.prog 94 := ⟨Tryz.isAgg94⟩
instance : SizeOf Tryz.prog 94 1 := ⟨Tryz.sizeOf94⟩
instance : Und Tryz.prog 94 (Go.TypeDesc.func #[48] #[33] Bool.false) := ⟨Tryz.underlying94⟩
instance : ZeroOf Tryz.prog 94 (Go.Value.nilFunc) := ⟨Tryz.zeroValue94⟩
instance : Body Tryz.prog 95 := ⟨Tryz.call95⟩
instance : NonAgg Tryz.prog 95 := ⟨Tryz.isAgg95⟩
instance : SizeOf Tryz.prog 95 1 := ⟨Tryz.sizeOf95⟩
instance : Und Tryz.prog 95 (Go.TypeDesc.func #[33] #[24] Bool.false) := ⟨Tryz.underlying95⟩
instance : ZeroOf Tryz.prog 95 (Go.Value.nilFunc) := ⟨Tryz.zeroValue95⟩
instance : Body Tryz.prog 96 := ⟨Tryz.call96⟩
instance : NonAgg Tryz.prog 96 := ⟨Tryz.isAgg96⟩
instance : SizeOf Tryz.prog 96 1 := ⟨Tryz.sizeOf96⟩
instance : Und Tryz.prog 96 (Go.TypeDesc.tuple #[36, 24]) := ⟨Tryz.underlying96⟩
instance : ZeroOf Tryz.prog 96 (Go.Value.tuple #[Go.Value.slice Option.none 0 0, Go.Value.int Go.IntKind.i64 0]) := ⟨Tryz.zeroValue96⟩
instance : Body Tryz.prog 97 := ⟨Tryz.call97⟩
instance : NonAgg Tryz.prog 97 := ⟨Tryz.isAgg97⟩
instance : SizeOf Tryz.prog 97 1 := ⟨Tryz.sizeOf97⟩
instance : Und Tryz.prog 97 (Go.TypeDesc.func #[2, 2, 2, 36] #[36, 24] Bool.false) := ⟨Tryz.underlying97⟩
instance : ZeroOf Tryz.prog 97 (Go.Value.nilFunc) := ⟨Tryz.zeroValue97⟩
instance : Body Tryz.prog 98 := ⟨Tryz.call98⟩
instance : NonAgg Tryz.prog 98 := ⟨Tryz.isAgg98⟩
instance : SizeOf Tryz.prog 98 1 := ⟨Tryz.sizeOf98⟩
instance : Und Tryz.prog 98 (Go.TypeDesc.func #[59] #[59] Bool.false) := ⟨Tryz.underlying98⟩
instance : ZeroOf Tryz.prog 98 (Go.Value.nilFunc) := ⟨Tryz.zeroValue98⟩
instance : Body Tryz.prog 99 := ⟨Tryz.call99⟩
instance : NonAgg Tryz.prog 99 := ⟨Tryz.isAgg99⟩
instance : SizeOf Tryz.prog 99 1 := ⟨Tryz.sizeOf99⟩
instance : Und Tryz.prog 99 (Go.TypeDesc.func #[66] #[66] Bool.false) := ⟨Tryz.underlying99⟩
instance : ZeroOf Tryz.prog 99 (Go.Value.nilFunc) := ⟨Tryz.zeroValue99⟩
instance : Body Tryz.prog 100 := ⟨Tryz.call100⟩
instance : NonAgg Tryz.prog 100 := ⟨Tryz.isAgg100⟩
instance : SizeOf Tryz.prog 100 1 := ⟨Tryz.sizeOf100⟩
instance : Und Tryz.prog 100 (Go.TypeDesc.func #[37] #[37] Bool.false) := ⟨Tryz.underlying100⟩
instance : ZeroOf Tryz.prog 100 (Go.Value.nilFunc) := ⟨Tryz.zeroValue100⟩
instance : Body Tryz.prog 101 := ⟨Tryz.call101⟩
instance : NonAgg Tryz.prog 101 := ⟨Tryz.isAgg101⟩
instance : SizeOf Tryz.prog 101 1 := ⟨Tryz.sizeOf101⟩
instance : Und Tryz.prog 101 (Go.TypeDesc.slice 2) := ⟨Tryz.underlying101⟩
instance : ZeroOf Tryz.prog 101 (Go.Value.slice Option.none 0 0) := ⟨Tryz.zeroValue101⟩
instance : Body Tryz.prog 102 := ⟨Tryz.call102⟩
instance : NonAgg Tryz.prog 102 := ⟨Tryz.isAgg102⟩
instance : SizeOf Tryz.prog 102 1 := ⟨Tryz.sizeOf102⟩
instance : Und Tryz.prog 102 (Go.TypeDesc.slice 118) := ⟨Tryz.underlying102⟩
instance : ZeroOf Tryz.prog 102 (Go.Value.slice Option.none 0 0) := ⟨Tryz.zeroValue102⟩
instance : Body Tryz.prog 103 := ⟨Tryz.call103⟩
instance : IsAggT Tryz.prog 103 := ⟨Tryz.isAgg103⟩
instance : SizeOf Tryz.prog 103 16 := ⟨Tryz.sizeOf103⟩
instance : Und Tryz.prog 103 (Go.TypeDesc.struct #[{ name := "d", type := 23, offset := 0, embedded := Bool.false, tag := "", pkgPath := "cresset/wal", byteOffset := 0 }, { name := "from", type := 3, offset := 1, embedded := Bool.false, tag := "", pkgPath := "cresset/wal", byteOffset := 8 }, { name := "sectors", type := 3, offset := 2, embedded := Bool.false, tag := "", pkgPath := "cresset/wal", byteOffset := 16 }, { name := "run", type := 2, offset := 3, embedded := Bool.false, tag := "", pkgPath := "cresset/wal", byteOffset := 24 }, { name := "began", type := 2, offset := 4, embedded := Bool.false, tag := "", pkgPath := "cresset/wal", byteOffset := 32 }, { name := "base", type := 2, offset := 5, embedded := Bool.false, tag := "", pkgPath := "cresset/wal", byteOffset := 40 }, { name := "row", type := 36, offset := 6, embedded := Bool.false, tag := "", pkgPath := "cresset/wal", byteOffset := 48 }, { name := "runs", type := 101, offset := 7, embedded := Bool.false, tag := "", pkgPath := "cresset/wal", byteOffset := 72 }, { name := "first", type := 33, offset := 8, embedded := Bool.false, tag := "", pkgPath := "cresset/wal", byteOffset := 96 }, { name := "l", type := 102, offset := 12, embedded := Bool.false, tag := "", pkgPath := "cresset/wal", byteOffset := 128 }, { name := "sure", type := 2, offset := 13, embedded := Bool.false, tag := "", pkgPath := "cresset/wal", byteOffset := 152 }, { name := "flushed", type := 2, offset := 14, embedded := Bool.false, tag := "", pkgPath := "cresset/wal", byteOffset := 160 }, { name := "dirty", type := 4, offset := 15, embedded := Bool.false, tag := "", pkgPath := "cresset/wal", byteOffset := 168 }]) := ⟨Tryz.underlying103⟩
instance : ZeroOf Tryz.prog 103 (Go.Value.agg #[Go.Value.pointer Option.none, Go.Value.int Go.IntKind.i64 0, Go.Value.int Go.IntKind.i64 0, Go.Value.int Go.IntKind.i64 0, Go.Value.int Go.IntKind.i64 0, Go.Value.int Go.IntKind.i64 0, Go.Value.slice Option.none 0 0, Go.Value.slice Option.none 0 0, Go.Value.int Go.IntKind.i64 0, Go.Value.int Go.IntKind.i64 0, Go.Value.int Go.IntKind.i64 0, Go.Value.int Go.IntKind.i64 0, Go.Value.slice Option.none 0 0, Go.Value.int Go.IntKind.i64 0, Go.Value.int Go.IntKind.i64 0, Go.Value.bool Bool.false]) := ⟨Tryz.zeroValue103⟩
instance : Body Tryz.prog 104 := ⟨Tryz.call104⟩
instance : IsAggT Tryz.prog 104 := ⟨Tryz.isAgg104⟩
instance : SizeOf Tryz.prog 104 16 := ⟨Tryz.sizeOf104⟩
instance : Und Tryz.prog 104 (Go.TypeDesc.struct #[{ name := "d", type := 23, offset := 0, embedded := Bool.false, tag := "", pkgPath := "cresset/wal", byteOffset := 0 }, { name := "from", type := 3, offset := 1, embedded := Bool.false, tag := "", pkgPath := "cresset/wal", byteOffset := 8 }, { name := "sectors", type := 3, offset := 2, embedded := Bool.false, tag := "", pkgPath := "cresset/wal", byteOffset := 16 }, { name := "run", type := 2, offset := 3, embedded := Bool.false, tag := "", pkgPath := "cresset/wal", byteOffset := 24 }, { name := "began", type := 2, offset := 4, embedded := Bool.false, tag := "", pkgPath := "cresset/wal", byteOffset := 32 }, { name := "base", type := 2, offset := 5, embedded := Bool.false, tag := "", pkgPath := "cresset/wal", byteOffset := 40 }, { name := "row", type := 36, offset := 6, embedded := Bool.false, tag := "", pkgPath := "cresset/wal", byteOffset := 48 }, { name := "runs", type := 101, offset := 7, embedded := Bool.false, tag := "", pkgPath := "cresset/wal", byteOffset := 72 }, { name := "first", type := 33, offset := 8, embedded := Bool.false, tag := "", pkgPath := "cresset/wal", byteOffset := 96 }, { name := "l", type := 102, offset := 12, embedded := Bool.false, tag := "", pkgPath := "cresset/wal", byteOffset := 128 }, { name := "sure", type := 2, offset := 13, embedded := Bool.false, tag := "", pkgPath := "cresset/wal", byteOffset := 152 }, { name := "flushed", type := 2, offset := 14, embedded := Bool.false, tag := "", pkgPath := "cresset/wal", byteOffset := 160 }, { name := "dirty", type := 4, offset := 15, embedded := Bool.false, tag := "", pkgPath := "cresset/wal", byteOffset := 168 }]) := ⟨Tryz.underlying104⟩
instance : ZeroOf Tryz.prog 104 (Go.Value.agg #[Go.Value.pointer Option.none, Go.Value.int Go.IntKind.i64 0, Go.Value.int Go.IntKind.i64 0, Go.Value.int Go.IntKind.i64 0, Go.Value.int Go.IntKind.i64 0, Go.Value.int Go.IntKind.i64 0, Go.Value.slice Option.none 0 0, Go.Value.slice Option.none 0 0, Go.Value.int Go.IntKind.i64 0, Go.Value.int Go.IntKind.i64 0, Go.Value.int Go.IntKind.i64 0, Go.Value.int Go.IntKind.i64 0, Go.Value.slice Option.none 0 0, Go.Value.int Go.IntKind.i64 0, Go.Value.int Go.IntKind.i64 0, Go.Value.bool Bool.false]) := ⟨Tryz.zeroValue104⟩
instance : Body Tryz.prog 105 := ⟨Tryz.call105⟩
instance : NonAgg Tryz.prog 105 := ⟨Tryz.isAgg105⟩
instance : SizeOf Tryz.prog 105 1 := ⟨Tryz.sizeOf105⟩
instance : Und Tryz.prog 105 (Go.TypeDesc.func #[] #[3] Bool.false) := ⟨Tryz.underlying105⟩
instance : ZeroOf Tryz.prog 105 (Go.Value.nilFunc) := ⟨Tryz.zeroValue105⟩
instance : Body Tryz.prog 106 := ⟨Tryz.call106⟩
instance : NonAgg Tryz.prog 106 := ⟨Tryz.isAgg106⟩
instance : SizeOf Tryz.prog 106 1 := ⟨Tryz.sizeOf106⟩
instance : Und Tryz.prog 106 (Go.TypeDesc.func #[2] #[4] Bool.false) := ⟨Tryz.underlying106⟩
instance : ZeroOf Tryz.prog 106 (Go.Value.nilFunc) := ⟨Tryz.zeroValue106⟩
instance : Body Tryz.prog 107 := ⟨Tryz.call107⟩
instance : NonAgg Tryz.prog 107 := ⟨Tryz.isAgg107⟩
instance : SizeOf Tryz.prog 107 1 := ⟨Tryz.sizeOf107⟩
instance : Und Tryz.prog 107 (Go.TypeDesc.slice 111) := ⟨Tryz.underlying107⟩
instance : ZeroOf Tryz.prog 107 (Go.Value.slice Option.none 0 0) := ⟨Tryz.zeroValue107⟩
instance : Body Tryz.prog 108 := ⟨Tryz.call108⟩
instance : NonAgg Tryz.prog 108 := ⟨Tryz.isAgg108⟩
instance : SizeOf Tryz.prog 108 1 := ⟨Tryz.sizeOf108⟩
instance : Und Tryz.prog 108 (Go.TypeDesc.tuple #[107, 24]) := ⟨Tryz.underlying108⟩
instance : ZeroOf Tryz.prog 108 (Go.Value.tuple #[Go.Value.slice Option.none 0 0, Go.Value.int Go.IntKind.i64 0]) := ⟨Tryz.zeroValue108⟩
instance : Body Tryz.prog 109 := ⟨Tryz.call109⟩
instance : NonAgg Tryz.prog 109 := ⟨Tryz.isAgg109⟩
instance : SizeOf Tryz.prog 109 1 := ⟨Tryz.sizeOf109⟩
instance : Und Tryz.prog 109 (Go.TypeDesc.func #[23, 3, 3] #[107, 24] Bool.false) := ⟨Tryz.underlying109⟩
instance : ZeroOf Tryz.prog 109 (Go.Value.nilFunc) := ⟨Tryz.zeroValue109⟩
instance : Body Tryz.prog 110 := ⟨Tryz.call110⟩
instance : IsAggT Tryz.prog 110 := ⟨Tryz.isAgg110⟩
instance : SizeOf Tryz.prog 110 5 := ⟨Tryz.sizeOf110⟩
instance : Und Tryz.prog 110 (Go.TypeDesc.struct #[{ name := "ok", type := 4, offset := 0, embedded := Bool.false, tag := "", pkgPath := "cresset/wal", byteOffset := 0 }, { name := "seq", type := 2, offset := 1, embedded := Bool.false, tag := "", pkgPath := "cresset/wal", byteOffset := 8 }, { name := "run", type := 2, offset := 2, embedded := Bool.false, tag := "", pkgPath := "cresset/wal", byteOffset := 16 }, { name := "began", type := 2, offset := 3, embedded := Bool.false, tag := "", pkgPath := "cresset/wal", byteOffset := 24 }, { name := "data", type := 36, offset := 4, embedded := Bool.false, tag := "", pkgPath := "cresset/wal", byteOffset := 32 }]) := ⟨Tryz.underlying110⟩
instance : ZeroOf Tryz.prog 110 (Go.Value.agg #[Go.Value.bool Bool.false, Go.Value.int Go.IntKind.i64 0, Go.Value.int Go.IntKind.i64 0, Go.Value.int Go.IntKind.i64 0, Go.Value.slice Option.none 0 0]) := ⟨Tryz.zeroValue110⟩
instance : Body Tryz.prog 111 := ⟨Tryz.call111⟩
instance : IsAggT Tryz.prog 111 := ⟨Tryz.isAgg111⟩
instance : SizeOf Tryz.prog 111 5 := ⟨Tryz.sizeOf111⟩
instance : Und Tryz.prog 111 (Go.TypeDesc.struct #[{ name := "ok", type := 4, offset := 0, embedded := Bool.false, tag := "", pkgPath := "cresset/wal", byteOffset := 0 }, { name := "seq", type := 2, offset := 1, embedded := Bool.false, tag := "", pkgPath := "cresset/wal", byteOffset := 8 }, { name := "run", type := 2, offset := 2, embedded := Bool.false, tag := "", pkgPath := "cresset/wal", byteOffset := 16 }, { name := "began", type := 2, offset := 3, embedded := Bool.false, tag := "", pkgPath := "cresset/wal", byteOffset := 24 }, { name := "data", type := 36, offset := 4, embedded := Bool.false, tag := "", pkgPath := "cresset/wal", byteOffset := 32 }]) := ⟨Tryz.underlying111⟩
instance : ZeroOf Tryz.prog 111 (Go.Value.agg #[Go.Value.bool Bool.false, Go.Value.int Go.IntKind.i64 0, Go.Value.int Go.IntKind.i64 0, Go.Value.int Go.IntKind.i64 0, Go.Value.slice Option.none 0 0]) := ⟨Tryz.zeroValue111⟩
instance : Body Tryz.prog 112 := ⟨Tryz.call112⟩
instance : NonAgg Tryz.prog 112 := ⟨Tryz.isAgg112⟩
instance : SizeOf Tryz.prog 112 1 := ⟨Tryz.sizeOf112⟩
instance : Und Tryz.prog 112 (Go.TypeDesc.func #[145] #[] Bool.false) := ⟨Tryz.underlying112⟩
instance : ZeroOf Tryz.prog 112 (Go.Value.nilFunc) := ⟨Tryz.zeroValue112⟩
instance : Body Tryz.prog 113 := ⟨Tryz.call113⟩
instance : NonAgg Tryz.prog 113 := ⟨Tryz.isAgg113⟩
instance : SizeOf Tryz.prog 113 1 := ⟨Tryz.sizeOf113⟩
instance : Und Tryz.prog 113 (Go.TypeDesc.func #[145] #[] Bool.false) := ⟨Tryz.underlying113⟩
instance : ZeroOf Tryz.prog 113 (Go.Value.nilFunc) := ⟨Tryz.zeroValue113⟩
instance : Body Tryz.prog 114 := ⟨Tryz.call114⟩
instance : NonAgg Tryz.prog 114 := ⟨Tryz.isAgg114⟩
instance : SizeOf Tryz.prog 114 1 := ⟨Tryz.sizeOf114⟩
instance : Und Tryz.prog 114 (Go.TypeDesc.func #[107, 2, 2] #[113] Bool.false) := ⟨Tryz.underlying114⟩
instance : ZeroOf Tryz.prog 114 (Go.Value.nilFunc) := ⟨Tryz.zeroValue114⟩
instance : Body Tryz.prog 115 := ⟨Tryz.call115⟩
instance : NonAgg Tryz.prog 115 := ⟨Tryz.isAgg115⟩
instance : SizeOf Tryz.prog 115 1 := ⟨Tryz.sizeOf115⟩
instance : Und Tryz.prog 115 (Go.TypeDesc.tuple #[36, 3, 24]) := ⟨Tryz.underlying115⟩
instance : ZeroOf Tryz.prog 115 (Go.Value.tuple #[Go.Value.slice Option.none 0 0, Go.Value.int Go.IntKind.i64 0, Go.Value.int Go.IntKind.i64 0]) := ⟨Tryz.zeroValue115⟩
instance : Body Tryz.prog 116 := ⟨Tryz.call116⟩
instance : NonAgg Tryz.prog 116 := ⟨Tryz.isAgg116⟩
instance : SizeOf Tryz.prog 116 1 := ⟨Tryz.sizeOf116⟩
instance : Und Tryz.prog 116 (Go.TypeDesc.func #[36] #[36, 3, 24] Bool.false) := ⟨Tryz.underlying116⟩
instance : ZeroOf Tryz.prog 116 (Go.Value.nilFunc) := ⟨Tryz.zeroValue116⟩
instance : Body Tryz.prog 117 := ⟨Tryz.call117⟩
instance : IsAggT Tryz.prog 117 := ⟨Tryz.isAgg117⟩
instance : SizeOf Tryz.prog 117 2 := ⟨Tryz.sizeOf117⟩
instance : Und Tryz.prog 117 (Go.TypeDesc.struct #[{ name := "at", type := 2, offset := 0, embedded := Bool.false, tag := "", pkgPath := "cresset/wal", byteOffset := 0 }, { name := "data", type := 36, offset := 1, embedded := Bool.false, tag := "", pkgPath := "cresset/wal", byteOffset := 8 }]) := ⟨Tryz.underlying117⟩
instance : ZeroOf Tryz.prog 117 (Go.Value.agg #[Go.Value.int Go.IntKind.i64 0, Go.Value.slice Option.none 0 0]) := ⟨Tryz.zeroValue117⟩
instance : Body Tryz.prog 118 := ⟨Tryz.call118⟩
instance : IsAggT Tryz.prog 118 := ⟨Tryz.isAgg118⟩
instance : SizeOf Tryz.prog 118 2 := ⟨Tryz.sizeOf118⟩
instance : Und Tryz.prog 118 (Go.TypeDesc.struct #[{ name := "at", type := 2, offset := 0, embedded := Bool.false, tag := "", pkgPath := "cresset/wal", byteOffset := 0 }, { name := "data", type := 36, offset := 1, embedded := Bool.false, tag := "", pkgPath := "cresset/wal", byteOffset := 8 }]) := ⟨Tryz.underlying118⟩
instance : ZeroOf Tryz.prog 118 (Go.Value.agg #[Go.Value.int Go.IntKind.i64 0, Go.Value.slice Option.none 0 0]) := ⟨Tryz.zeroValue118⟩
instance : Body Tryz.prog 119 := ⟨Tryz.call119⟩
instance : NonAgg Tryz.prog 119 := ⟨Tryz.isAgg119⟩
instance : SizeOf Tryz.prog 119 1 := ⟨Tryz.sizeOf119⟩
instance : Und Tryz.prog 119 (Go.TypeDesc.func #[102] #[102] Bool.false) := ⟨Tryz.underlying119⟩
instance : ZeroOf Tryz.prog 119 (Go.Value.nilFunc) := ⟨Tryz.zeroValue119⟩
instance : Body Tryz.prog 120 := ⟨Tryz.call120⟩
instance : NonAgg Tryz.prog 120 := ⟨Tryz.isAgg120⟩
instance : SizeOf Tryz.prog 120 1 := ⟨Tryz.sizeOf120⟩
instance : Und Tryz.prog 120 (Go.TypeDesc.func #[2, 36] #[4] Bool.false) := ⟨Tryz.underlying120⟩
instance : ZeroOf Tryz.prog 120 (Go.Value.nilFunc) := ⟨Tryz.zeroValue120⟩
instance : Body Tryz.prog 121 := ⟨Tryz.call121⟩
instance : NonAgg Tryz.prog 121 := ⟨Tryz.isAgg121⟩
instance : SizeOf Tryz.prog 121 1 := ⟨Tryz.sizeOf121⟩
instance : Und Tryz.prog 121 (Go.TypeDesc.func #[2, 2] #[33] Bool.false) := ⟨Tryz.underlying121⟩
instance : ZeroOf Tryz.prog 121 (Go.Value.nilFunc) := ⟨Tryz.zeroValue121⟩
instance : Body Tryz.prog 122 := ⟨Tryz.call122⟩
instance : NonAgg Tryz.prog 122 := ⟨Tryz.isAgg122⟩
instance : SizeOf Tryz.prog 122 1 := ⟨Tryz.sizeOf122⟩
instance : Und Tryz.prog 122 (Go.TypeDesc.func #[3] #[36] Bool.false) := ⟨Tryz.underlying122⟩
instance : ZeroOf Tryz.prog 122 (Go.Value.nilFunc) := ⟨Tryz.zeroValue122⟩
instance : Body Tryz.prog 123 := ⟨Tryz.call123⟩
instance : NonAgg Tryz.prog 123 := ⟨Tryz.isAgg123⟩
instance : SizeOf Tryz.prog 123 1 := ⟨Tryz.sizeOf123⟩
instance : Und Tryz.prog 123 (Go.TypeDesc.func #[35] #[36, 24] Bool.false) := ⟨Tryz.underlying123⟩
instance : ZeroOf Tryz.prog 123 (Go.Value.nilFunc) := ⟨Tryz.zeroValue123⟩
instance : Body Tryz.prog 124 := ⟨Tryz.call124⟩
instance : NonAgg Tryz.prog 124 := ⟨Tryz.isAgg124⟩
instance : SizeOf Tryz.prog 124 1 := ⟨Tryz.sizeOf124⟩
instance : Und Tryz.prog 124 (Go.TypeDesc.func #[3, 35] #[3] Bool.false) := ⟨Tryz.underlying124⟩
instance : ZeroOf Tryz.prog 124 (Go.Value.nilFunc) := ⟨Tryz.zeroValue124⟩
instance : Body Tryz.prog 125 := ⟨Tryz.call125⟩
instance : NonAgg Tryz.prog 125 := ⟨Tryz.isAgg125⟩
instance : SizeOf Tryz.prog 125 1 := ⟨Tryz.sizeOf125⟩
instance : Und Tryz.prog 125 (Go.TypeDesc.func #[3] #[24] Bool.false) := ⟨Tryz.underlying125⟩
instance : ZeroOf Tryz.prog 125 (Go.Value.nilFunc) := ⟨Tryz.zeroValue125⟩
instance : Body Tryz.prog 126 := ⟨Tryz.call126⟩
instance : NonAgg Tryz.prog 126 := ⟨Tryz.isAgg126⟩
instance : SizeOf Tryz.prog 126 1 := ⟨Tryz.sizeOf126⟩
instance : Und Tryz.prog 126 (Go.TypeDesc.func #[37] #[] Bool.false) := ⟨Tryz.underlying126⟩
instance : ZeroOf Tryz.prog 126 (Go.Value.nilFunc) := ⟨Tryz.zeroValue126⟩
instance : Body Tryz.prog 127 := ⟨Tryz.call127⟩
instance : NonAgg Tryz.prog 127 := ⟨Tryz.isAgg127⟩
instance : SizeOf Tryz.prog 127 1 := ⟨Tryz.sizeOf127⟩
instance : Und Tryz.prog 127 (Go.TypeDesc.func #[3] #[36, 24] Bool.false) := ⟨Tryz.underlying127⟩
instance : ZeroOf Tryz.prog 127 (Go.Value.nilFunc) := ⟨Tryz.zeroValue127⟩
instance : Body Tryz.prog 128 := ⟨Tryz.call128⟩
instance : NonAgg Tryz.prog 128 := ⟨Tryz.isAgg128⟩
instance : SizeOf Tryz.prog 128 1 := ⟨Tryz.sizeOf128⟩
instance : Und Tryz.prog 128 (Go.TypeDesc.func #[36] #[35, 24] Bool.false) := ⟨Tryz.underlying128⟩
instance : ZeroOf Tryz.prog 128 (Go.Value.nilFunc) := ⟨Tryz.zeroValue128⟩
instance : Body Tryz.prog 129 := ⟨Tryz.call129⟩
instance : NonAgg Tryz.prog 129 := ⟨Tryz.isAgg129⟩
instance : SizeOf Tryz.prog 129 1 := ⟨Tryz.sizeOf129⟩
instance : Und Tryz.prog 129 (Go.TypeDesc.func #[27, 3, 3] #[35, 24] Bool.false) := ⟨Tryz.underlying129⟩
instance : ZeroOf Tryz.prog 129 (Go.Value.nilFunc) := ⟨Tryz.zeroValue129⟩
instance : Body Tryz.prog 130 := ⟨Tryz.call130⟩
instance : NonAgg Tryz.prog 130 := ⟨Tryz.isAgg130⟩
instance : SizeOf Tryz.prog 130 1 := ⟨Tryz.sizeOf130⟩
instance : Und Tryz.prog 130 (Go.TypeDesc.tuple #[51, 24]) := ⟨Tryz.underlying130⟩
instance : ZeroOf Tryz.prog 130 (Go.Value.tuple #[Go.Value.pointer Option.none, Go.Value.int Go.IntKind.i64 0]) := ⟨Tryz.zeroValue130⟩
instance : Body Tryz.prog 131 := ⟨Tryz.call131⟩
instance : NonAgg Tryz.prog 131 := ⟨Tryz.isAgg131⟩
instance : SizeOf Tryz.prog 131 1 := ⟨Tryz.sizeOf131⟩
instance : Und Tryz.prog 131 (Go.TypeDesc.func #[27, 3, 3, 33] #[51, 24] Bool.false) := ⟨Tryz.underlying131⟩
instance : ZeroOf Tryz.prog 131 (Go.Value.nilFunc) := ⟨Tryz.zeroValue131⟩
instance : Body Tryz.prog 132 := ⟨Tryz.call132⟩
instance : NonAgg Tryz.prog 132 := ⟨Tryz.isAgg132⟩
instance : SizeOf Tryz.prog 132 1 := ⟨Tryz.sizeOf132⟩
instance : Und Tryz.prog 132 (Go.TypeDesc.func #[36] #[36, 24] Bool.false) := ⟨Tryz.underlying132⟩
instance : ZeroOf Tryz.prog 132 (Go.Value.nilFunc) := ⟨Tryz.zeroValue132⟩
instance : Body Tryz.prog 133 := ⟨Tryz.call133⟩
instance : NonAgg Tryz.prog 133 := ⟨Tryz.isAgg133⟩
instance : SizeOf Tryz.prog 133 1 := ⟨Tryz.sizeOf133⟩
instance : Und Tryz.prog 133 (Go.TypeDesc.slice 3) := ⟨Tryz.underlying133⟩
instance : ZeroOf Tryz.prog 133 (Go.Value.slice Option.none 0 0) := ⟨Tryz.zeroValue133⟩
instance : Body Tryz.prog 134 := ⟨Tryz.call134⟩
instance : IsAggT Tryz.prog 134 := ⟨Tryz.isAgg134⟩
instance : SizeOf Tryz.prog 134 16 := ⟨Tryz.sizeOf134⟩
instance : Und Tryz.prog 134 (Go.TypeDesc.struct #[{ name := "D", type := 27, offset := 0, embedded := Bool.false, tag := "", pkgPath := "", byteOffset := 0 }, { name := "From", type := 3, offset := 1, embedded := Bool.false, tag := "", pkgPath := "", byteOffset := 8 }, { name := "N", type := 3, offset := 2, embedded := Bool.false, tag := "", pkgPath := "", byteOffset := 16 }, { name := "Run", type := 2, offset := 3, embedded := Bool.false, tag := "", pkgPath := "", byteOffset := 24 }, { name := "Began", type := 2, offset := 4, embedded := Bool.false, tag := "", pkgPath := "", byteOffset := 32 }, { name := "row", type := 36, offset := 5, embedded := Bool.false, tag := "", pkgPath := "cresset/cressetref17", byteOffset := 40 }, { name := "first", type := 33, offset := 6, embedded := Bool.false, tag := "", pkgPath := "cresset/cressetref17", byteOffset := 64 }, { name := "ends", type := 133, offset := 10, embedded := Bool.false, tag := "", pkgPath := "cresset/cressetref17", byteOffset := 96 }, { name := "L", type := 59, offset := 11, embedded := Bool.false, tag := "", pkgPath := "", byteOffset := 120 }, { name := "sure", type := 3, offset := 12, embedded := Bool.false, tag := "", pkgPath := "cresset/cressetref17", byteOffset := 144 }, { name := "runs", type := 101, offset := 13, embedded := Bool.false, tag := "", pkgPath := "cresset/cressetref17", byteOffset := 152 }, { name := "sured", type := 2, offset := 14, embedded := Bool.false, tag := "", pkgPath := "cresset/cressetref17", byteOffset := 176 }, { name := "pending", type := 4, offset := 15, embedded := Bool.false, tag := "", pkgPath := "cresset/cressetref17", byteOffset := 184 }]) := ⟨Tryz.underlying134⟩
instance : ZeroOf Tryz.prog 134 (Go.Value.agg #[Go.Value.pointer Option.none, Go.Value.int Go.IntKind.i64 0, Go.Value.int Go.IntKind.i64 0, Go.Value.int Go.IntKind.i64 0, Go.Value.int Go.IntKind.i64 0, Go.Value.slice Option.none 0 0, Go.Value.int Go.IntKind.i64 0, Go.Value.int Go.IntKind.i64 0, Go.Value.int Go.IntKind.i64 0, Go.Value.int Go.IntKind.i64 0, Go.Value.slice Option.none 0 0, Go.Value.slice Option.none 0 0, Go.Value.int Go.IntKind.i64 0, Go.Value.slice Option.none 0 0, Go.Value.int Go.IntKind.i64 0, Go.Value.bool Bool.false]) := ⟨Tryz.zeroValue134⟩
instance : Body Tryz.prog 135 := ⟨Tryz.call135⟩
instance : IsAggT Tryz.prog 135 := ⟨Tryz.isAgg135⟩
instance : SizeOf Tryz.prog 135 16 := ⟨Tryz.sizeOf135⟩
instance : Und Tryz.prog 135 (Go.TypeDesc.struct #[{ name := "D", type := 27, offset := 0, embedded := Bool.false, tag := "", pkgPath := "", byteOffset := 0 }, { name := "From", type := 3, offset := 1, embedded := Bool.false, tag := "", pkgPath := "", byteOffset := 8 }, { name := "N", type := 3, offset := 2, embedded := Bool.false, tag := "", pkgPath := "", byteOffset := 16 }, { name := "Run", type := 2, offset := 3, embedded := Bool.false, tag := "", pkgPath := "", byteOffset := 24 }, { name := "Began", type := 2, offset := 4, embedded := Bool.false, tag := "", pkgPath := "", byteOffset := 32 }, { name := "row", type := 36, offset := 5, embedded := Bool.false, tag := "", pkgPath := "cresset/cressetref17", byteOffset := 40 }, { name := "first", type := 33, offset := 6, embedded := Bool.false, tag := "", pkgPath := "cresset/cressetref17", byteOffset := 64 }, { name := "ends", type := 133, offset := 10, embedded := Bool.false, tag := "", pkgPath := "cresset/cressetref17", byteOffset := 96 }, { name := "L", type := 59, offset := 11, embedded := Bool.false, tag := "", pkgPath := "", byteOffset := 120 }, { name := "sure", type := 3, offset := 12, embedded := Bool.false, tag := "", pkgPath := "cresset/cressetref17", byteOffset := 144 }, { name := "runs", type := 101, offset := 13, embedded := Bool.false, tag := "", pkgPath := "cresset/cressetref17", byteOffset := 152 }, { name := "sured", type := 2, offset := 14, embedded := Bool.false, tag := "", pkgPath := "cresset/cressetref17", byteOffset := 176 }, { name := "pending", type := 4, offset := 15, embedded := Bool.false, tag := "", pkgPath := "cresset/cressetref17", byteOffset := 184 }]) := ⟨Tryz.underlying135⟩
instance : ZeroOf Tryz.prog 135 (Go.Value.agg #[Go.Value.pointer Option.none, Go.Value.int Go.IntKind.i64 0, Go.Value.int Go.IntKind.i64 0, Go.Value.int Go.IntKind.i64 0, Go.Value.int Go.IntKind.i64 0, Go.Value.slice Option.none 0 0, Go.Value.int Go.IntKind.i64 0, Go.Value.int Go.IntKind.i64 0, Go.Value.int Go.IntKind.i64 0, Go.Value.int Go.IntKind.i64 0, Go.Value.slice Option.none 0 0, Go.Value.slice Option.none 0 0, Go.Value.int Go.IntKind.i64 0, Go.Value.slice Option.none 0 0, Go.Value.int Go.IntKind.i64 0, Go.Value.bool Bool.false]) := ⟨Tryz.zeroValue135⟩
instance : Body Tryz.prog 136 := ⟨Tryz.call136⟩
instance : NonAgg Tryz.prog 136 := ⟨Tryz.isAgg136⟩
instance : SizeOf Tryz.prog 136 1 := ⟨Tryz.sizeOf136⟩
instance : Und Tryz.prog 136 (Go.TypeDesc.tuple #[33, 4]) := ⟨Tryz.underlying136⟩
instance : ZeroOf Tryz.prog 136 (Go.Value.tuple #[Go.Value.agg #[Go.Value.int Go.IntKind.i64 0, Go.Value.int Go.IntKind.i64 0, Go.Value.int Go.IntKind.i64 0, Go.Value.int Go.IntKind.i64 0], Go.Value.bool Bool.false]) := ⟨Tryz.zeroValue136⟩
instance : Body Tryz.prog 137 := ⟨Tryz.call137⟩
instance : NonAgg Tryz.prog 137 := ⟨Tryz.isAgg137⟩
instance : SizeOf Tryz.prog 137 1 := ⟨Tryz.sizeOf137⟩
instance : Und Tryz.prog 137 (Go.TypeDesc.func #[2] #[33, 4] Bool.false) := ⟨Tryz.underlying137⟩
instance : ZeroOf Tryz.prog 137 (Go.Value.nilFunc) := ⟨Tryz.zeroValue137⟩
instance : Body Tryz.prog 138 := ⟨Tryz.call138⟩
instance : NonAgg Tryz.prog 138 := ⟨Tryz.isAgg138⟩
instance : SizeOf Tryz.prog 138 1 := ⟨Tryz.sizeOf138⟩
instance : Und Tryz.prog 138 (Go.TypeDesc.func #[101] #[101] Bool.false) := ⟨Tryz.underlying138⟩
instance : ZeroOf Tryz.prog 138 (Go.Value.nilFunc) := ⟨Tryz.zeroValue138⟩
instance : Body Tryz.prog 139 := ⟨Tryz.call139⟩
instance : NonAgg Tryz.prog 139 := ⟨Tryz.isAgg139⟩
instance : SizeOf Tryz.prog 139 1 := ⟨Tryz.sizeOf139⟩
instance : Und Tryz.prog 139 (Go.TypeDesc.func #[36, 2, 3] #[36] Bool.false) := ⟨Tryz.underlying139⟩
instance : ZeroOf Tryz.prog 139 (Go.Value.nilFunc) := ⟨Tryz.zeroValue139⟩
instance : Body Tryz.prog 140 := ⟨Tryz.call140⟩
instance : NonAgg Tryz.prog 140 := ⟨Tryz.isAgg140⟩
instance : SizeOf Tryz.prog 140 1 := ⟨Tryz.sizeOf140⟩
instance : Und Tryz.prog 140 (Go.TypeDesc.int Go.IntKind.u32) := ⟨Tryz.underlying140⟩
instance : ZeroOf Tryz.prog 140 (Go.Value.int Go.IntKind.u32 0) := ⟨Tryz.zeroValue140⟩
instance : Body Tryz.prog 141 := ⟨Tryz.call141⟩
instance : NonAgg Tryz.prog 141 := ⟨Tryz.isAgg141⟩
instance : SizeOf Tryz.prog 141 1 := ⟨Tryz.sizeOf141⟩
instance : Und Tryz.prog 141 (Go.TypeDesc.func #[36] #[140] Bool.false) := ⟨Tryz.underlying141⟩
instance : ZeroOf Tryz.prog 141 (Go.Value.nilFunc) := ⟨Tryz.zeroValue141⟩
instance : Body Tryz.prog 142 := ⟨Tryz.call142⟩
instance : NonAgg Tryz.prog 142 := ⟨Tryz.isAgg142⟩
instance : SizeOf Tryz.prog 142 1 := ⟨Tryz.sizeOf142⟩
instance : Und Tryz.prog 142 (Go.TypeDesc.func #[20] #[20] Bool.false) := ⟨Tryz.underlying142⟩
instance : ZeroOf Tryz.prog 142 (Go.Value.nilFunc) := ⟨Tryz.zeroValue142⟩
instance : Body Tryz.prog 143 := ⟨Tryz.call143⟩
instance : NonAgg Tryz.prog 143 := ⟨Tryz.isAgg143⟩
instance : SizeOf Tryz.prog 143 1 := ⟨Tryz.sizeOf143⟩
instance : Und Tryz.prog 143 (Go.TypeDesc.tuple #[2, 2, 2, 36, 24]) := ⟨Tryz.underlying143⟩
instance : ZeroOf Tryz.prog 143 (Go.Value.tuple #[Go.Value.int Go.IntKind.i64 0, Go.Value.int Go.IntKind.i64 0, Go.Value.int Go.IntKind.i64 0, Go.Value.slice Option.none 0 0, Go.Value.int Go.IntKind.i64 0]) := ⟨Tryz.zeroValue143⟩
instance : Body Tryz.prog 144 := ⟨Tryz.call144⟩
instance : NonAgg Tryz.prog 144 := ⟨Tryz.isAgg144⟩
instance : SizeOf Tryz.prog 144 1 := ⟨Tryz.sizeOf144⟩
instance : Und Tryz.prog 144 (Go.TypeDesc.func #[36] #[2, 2, 2, 36, 24] Bool.false) := ⟨Tryz.underlying144⟩
instance : ZeroOf Tryz.prog 144 (Go.Value.nilFunc) := ⟨Tryz.zeroValue144⟩
instance : Body Tryz.prog 145 := ⟨Tryz.call145⟩
instance : NonAgg Tryz.prog 145 := ⟨Tryz.isAgg145⟩
instance : SizeOf Tryz.prog 145 1 := ⟨Tryz.sizeOf145⟩
instance : Und Tryz.prog 145 (Go.TypeDesc.func #[111] #[4] Bool.false) := ⟨Tryz.underlying145⟩
instance : ZeroOf Tryz.prog 145 (Go.Value.nilFunc) := ⟨Tryz.zeroValue145⟩
instance : Body Tryz.prog 146 := ⟨Tryz.call146⟩
instance : NonAgg Tryz.prog 146 := ⟨Tryz.isAgg146⟩
instance : SizeOf Tryz.prog 146 1 := ⟨Tryz.sizeOf146⟩
instance : Und Tryz.prog 146 (Go.TypeDesc.tuple #[2, 3, 24]) := ⟨Tryz.underlying146⟩
instance : ZeroOf Tryz.prog 146 (Go.Value.tuple #[Go.Value.int Go.IntKind.i64 0, Go.Value.int Go.IntKind.i64 0, Go.Value.int Go.IntKind.i64 0]) := ⟨Tryz.zeroValue146⟩
instance : Body Tryz.prog 147 := ⟨Tryz.call147⟩
instance : NonAgg Tryz.prog 147 := ⟨Tryz.isAgg147⟩
instance : SizeOf Tryz.prog 147 1 := ⟨Tryz.sizeOf147⟩
instance : Und Tryz.prog 147 (Go.TypeDesc.func #[36] #[2, 3, 24] Bool.false) := ⟨Tryz.underlying147⟩
instance : ZeroOf Tryz.prog 147 (Go.Value.nilFunc) := ⟨Tryz.zeroValue147⟩
instance : Body Tryz.prog 148 := ⟨Tryz.call148⟩
instance : NonAgg Tryz.prog 148 := ⟨Tryz.isAgg148⟩
instance : SizeOf Tryz.prog 148 1 := ⟨Tryz.sizeOf148⟩
instance : Und Tryz.prog 148 (Go.TypeDesc.int Go.IntKind.u64) := ⟨Tryz.underlying148⟩
instance : ZeroOf Tryz.prog 148 (Go.Value.int Go.IntKind.u64 0) := ⟨Tryz.zeroValue148⟩
instance : Body Tryz.prog 149 := ⟨Tryz.call149⟩
instance : NonAgg Tryz.prog 149 := ⟨Tryz.isAgg149⟩
instance : SizeOf Tryz.prog 149 1 := ⟨Tryz.sizeOf149⟩
instance : Und Tryz.prog 149 (Go.TypeDesc.func #[59] #[140] Bool.true) := ⟨Tryz.underlying149⟩
instance : ZeroOf Tryz.prog 149 (Go.Value.nilFunc) := ⟨Tryz.zeroValue149⟩
instance : Body Tryz.prog 150 := ⟨Tryz.call150⟩
instance : NonAgg Tryz.prog 150 := ⟨Tryz.isAgg150⟩
instance : SizeOf Tryz.prog 150 1 := ⟨Tryz.sizeOf150⟩
instance : Und Tryz.prog 150 (Go.TypeDesc.tuple #[36, 4]) := ⟨Tryz.underlying150⟩
instance : ZeroOf Tryz.prog 150 (Go.Value.tuple #[Go.Value.slice Option.none 0 0, Go.Value.bool Bool.false]) := ⟨Tryz.zeroValue150⟩
instance : Body Tryz.prog 151 := ⟨Tryz.call151⟩
instance : IsAggT Tryz.prog 151 := ⟨Tryz.isAgg151⟩
instance : SizeOf Tryz.prog 151 512 := ⟨Tryz.sizeOf151⟩
instance : Und Tryz.prog 151 (Go.TypeDesc.array 512 5) := ⟨Tryz.underlying151⟩
instance : ZeroOf Tryz.prog 151 (Go.Value.agg Go.Proofs.Tryz.zeroCells151) := ⟨Tryz.zeroValue151⟩
instance : Body Tryz.prog 152 := ⟨Tryz.call152⟩
instance : NonAgg Tryz.prog 152 := ⟨Tryz.isAgg152⟩
instance : SizeOf Tryz.prog 152 1 := ⟨Tryz.sizeOf152⟩
instance : Und Tryz.prog 152 (Go.TypeDesc.func #[] #[133] Bool.false) := ⟨Tryz.underlying152⟩
instance : ZeroOf Tryz.prog 152 (Go.Value.nilFunc) := ⟨Tryz.zeroValue152⟩
instance : Body Tryz.prog 153 := ⟨Tryz.call153⟩
instance : NonAgg Tryz.prog 153 := ⟨Tryz.isAgg153⟩
instance : SizeOf Tryz.prog 153 1 := ⟨Tryz.sizeOf153⟩
instance : Und Tryz.prog 153 (Go.TypeDesc.func #[36, 2] #[36] Bool.false) := ⟨Tryz.underlying153⟩
instance : ZeroOf Tryz.prog 153 (Go.Value.nilFunc) := ⟨Tryz.zeroValue153⟩
instance : Body Tryz.prog 154 := ⟨Tryz.call154⟩
instance : NonAgg Tryz.prog 154 := ⟨Tryz.isAgg154⟩
instance : SizeOf Tryz.prog 154 1 := ⟨Tryz.sizeOf154⟩
instance : Und Tryz.prog 154 (Go.TypeDesc.func #[155, 3] #[36] Bool.false) := ⟨Tryz.underlying154⟩
instance : ZeroOf Tryz.prog 154 (Go.Value.nilFunc) := ⟨Tryz.zeroValue154⟩
instance : Body Tryz.prog 155 := ⟨Tryz.call155⟩
instance : NonAgg Tryz.prog 155 := ⟨Tryz.isAgg155⟩
instance : SizeOf Tryz.prog 155 1 := ⟨Tryz.sizeOf155⟩
instance : Und Tryz.prog 155 (Go.TypeDesc.int Go.IntKind.u64) := ⟨Tryz.underlying155⟩
instance : ZeroOf Tryz.prog 155 (Go.Value.int Go.IntKind.u64 0) := ⟨Tryz.zeroValue155⟩
instance : Body Tryz.prog 156 := ⟨Tryz.call156⟩
instance : IsAggT Tryz.prog 156 := ⟨Tryz.isAgg156⟩
instance : SizeOf Tryz.prog 156 6 := ⟨Tryz.sizeOf156⟩
instance : Und Tryz.prog 156 (Go.TypeDesc.array 6 36) := ⟨Tryz.underlying156⟩
instance : ZeroOf Tryz.prog 156 (Go.Value.agg #[Go.Value.slice Option.none 0 0, Go.Value.slice Option.none 0 0, Go.Value.slice Option.none 0 0, Go.Value.slice Option.none 0 0, Go.Value.slice Option.none 0 0, Go.Value.slice Option.none 0 0]) := ⟨Tryz.zeroValue156⟩
instance : Body Tryz.prog 157 := ⟨Tryz.call157⟩
instance : NonAgg Tryz.prog 157 := ⟨Tryz.isAgg157⟩
instance : SizeOf Tryz.prog 157 1 := ⟨Tryz.sizeOf157⟩
instance : Und Tryz.prog 157 (Go.TypeDesc.func #[140] #[36] Bool.false) := ⟨Tryz.underlying157⟩
instance : ZeroOf Tryz.prog 157 (Go.Value.nilFunc) := ⟨Tryz.zeroValue157⟩
instance : Body Tryz.prog 158 := ⟨Tryz.call158⟩
instance : NonAgg Tryz.prog 158 := ⟨Tryz.isAgg158⟩
instance : SizeOf Tryz.prog 158 1 := ⟨Tryz.sizeOf158⟩
instance : Und Tryz.prog 158 (Go.TypeDesc.func #[3, 2] #[33] Bool.false) := ⟨Tryz.underlying158⟩
instance : ZeroOf Tryz.prog 158 (Go.Value.nilFunc) := ⟨Tryz.zeroValue158⟩
instance : Body Tryz.prog 159 := ⟨Tryz.call159⟩
instance : NonAgg Tryz.prog 159 := ⟨Tryz.isAgg159⟩
instance : SizeOf Tryz.prog 159 1 := ⟨Tryz.sizeOf159⟩
instance : Und Tryz.prog 159 (Go.TypeDesc.func #[36] #[155] Bool.false) := ⟨Tryz.underlying159⟩
instance : ZeroOf Tryz.prog 159 (Go.Value.nilFunc) := ⟨Tryz.zeroValue159⟩
instance : Body Tryz.prog 160 := ⟨Tryz.call160⟩
instance : NonAgg Tryz.prog 160 := ⟨Tryz.isAgg160⟩
instance : SizeOf Tryz.prog 160 1 := ⟨Tryz.sizeOf160⟩
instance : Und Tryz.prog 160 (Go.TypeDesc.func #[36, 161] #[4] Bool.false) := ⟨Tryz.underlying160⟩
instance : ZeroOf Tryz.prog 160 (Go.Value.nilFunc) := ⟨Tryz.zeroValue160⟩
instance : Body Tryz.prog 161 := ⟨Tryz.call161⟩
instance : NonAgg Tryz.prog 161 := ⟨Tryz.isAgg161⟩
instance : SizeOf Tryz.prog 161 1 := ⟨Tryz.sizeOf161⟩
instance : Und Tryz.prog 161 (Go.TypeDesc.func #[5] #[4] Bool.false) := ⟨Tryz.underlying161⟩
instance : ZeroOf Tryz.prog 161 (Go.Value.nilFunc) := ⟨Tryz.zeroValue161⟩
instance : NonAgg Tryz.prog 162 := ⟨Tryz.isAgg162⟩
instance : SizeOf Tryz.prog 162 1 := ⟨Tryz.sizeOf162⟩
instance : Und Tryz.prog 162 (Go.TypeDesc.func #[2] #[3] Bool.false) := ⟨Tryz.underlying162⟩
instance : ZeroOf Tryz.prog 162 (Go.Value.nilFunc) := ⟨Tryz.zeroValue162⟩
instance : NonAgg Tryz.prog 163 := ⟨Tryz.isAgg163⟩
instance : SizeOf Tryz.prog 163 1 := ⟨Tryz.sizeOf163⟩
instance : Und Tryz.prog 163 (Go.TypeDesc.func #[179] #[36, 24] Bool.false) := ⟨Tryz.underlying163⟩
instance : ZeroOf Tryz.prog 163 (Go.Value.nilFunc) := ⟨Tryz.zeroValue163⟩
instance : IsAggT Tryz.prog 164 := ⟨Tryz.isAgg164⟩
instance : SizeOf Tryz.prog 164 8 := ⟨Tryz.sizeOf164⟩
instance : Und Tryz.prog 164 (Go.TypeDesc.struct #[{ name := "Master", type := 35, offset := 0, embedded := Bool.true, tag := "", pkgPath := "", byteOffset := 0 }]) := ⟨Tryz.underlying164⟩
instance : ZeroOf Tryz.prog 164 (Go.Value.agg #[Go.Value.int Go.IntKind.i64 0, Go.Value.int Go.IntKind.i64 0, Go.Value.int Go.IntKind.i64 0, Go.Value.int Go.IntKind.i64 0, Go.Value.int Go.IntKind.i64 0, Go.Value.int Go.IntKind.i64 0, Go.Value.int Go.IntKind.i64 0, Go.Value.int Go.IntKind.i64 0]) := ⟨Tryz.zeroValue164⟩
instance : IsAggT Tryz.prog 165 := ⟨Tryz.isAgg165⟩
instance : SizeOf Tryz.prog 165 8 := ⟨Tryz.sizeOf165⟩
instance : Und Tryz.prog 165 (Go.TypeDesc.struct #[{ name := "Master", type := 35, offset := 0, embedded := Bool.true, tag := "", pkgPath := "", byteOffset := 0 }]) := ⟨Tryz.underlying165⟩
instance : ZeroOf Tryz.prog 165 (Go.Value.agg #[Go.Value.int Go.IntKind.i64 0, Go.Value.int Go.IntKind.i64 0, Go.Value.int Go.IntKind.i64 0, Go.Value.int Go.IntKind.i64 0, Go.Value.int Go.IntKind.i64 0, Go.Value.int Go.IntKind.i64 0, Go.Value.int Go.IntKind.i64 0, Go.Value.int Go.IntKind.i64 0]) := ⟨Tryz.zeroValue165⟩
instance : NonAgg Tryz.prog 166 := ⟨Tryz.isAgg166⟩
instance : SizeOf Tryz.prog 166 1 := ⟨Tryz.sizeOf166⟩
instance : Und Tryz.prog 166 (Go.TypeDesc.func #[35] #[24] Bool.false) := ⟨Tryz.underlying166⟩
instance : ZeroOf Tryz.prog 166 (Go.Value.nilFunc) := ⟨Tryz.zeroValue166⟩
instance : NonAgg Tryz.prog 167 := ⟨Tryz.isAgg167⟩
instance : SizeOf Tryz.prog 167 1 := ⟨Tryz.sizeOf167⟩
instance : Und Tryz.prog 167 (Go.TypeDesc.func #[180] #[] Bool.false) := ⟨Tryz.underlying167⟩
instance : ZeroOf Tryz.prog 167 (Go.Value.nilFunc) := ⟨Tryz.zeroValue167⟩
instance : NonAgg Tryz.prog 168 := ⟨Tryz.isAgg168⟩
instance : SizeOf Tryz.prog 168 1 := ⟨Tryz.sizeOf168⟩
instance : Und Tryz.prog 168 (Go.TypeDesc.func #[180] #[] Bool.false) := ⟨Tryz.underlying168⟩
instance : ZeroOf Tryz.prog 168 (Go.Value.nilFunc) := ⟨Tryz.zeroValue168⟩
instance : NonAgg Tryz.prog 169 := ⟨Tryz.isAgg169⟩
instance : SizeOf Tryz.prog 169 1 := ⟨Tryz.sizeOf169⟩
instance : Und Tryz.prog 169 (Go.TypeDesc.func #[66] #[168] Bool.false) := ⟨Tryz.underlying169⟩
instance : ZeroOf Tryz.prog 169 (Go.Value.nilFunc) := ⟨Tryz.zeroValue169⟩
instance : NonAgg Tryz.prog 170 := ⟨Tryz.isAgg170⟩
instance : SizeOf Tryz.prog 170 1 := ⟨Tryz.sizeOf170⟩
instance : Und Tryz.prog 170 (Go.TypeDesc.func #[133] #[] Bool.false) := ⟨Tryz.underlying170⟩
instance : ZeroOf Tryz.prog 170 (Go.Value.nilFunc) := ⟨Tryz.zeroValue170⟩
instance : NonAgg Tryz.prog 171 := ⟨Tryz.isAgg171⟩
instance : SizeOf Tryz.prog 171 1 := ⟨Tryz.sizeOf171⟩
instance : Und Tryz.prog 171 (Go.TypeDesc.pointer 173) := ⟨Tryz.underlying171⟩
instance : ZeroOf Tryz.prog 171 (Go.Value.pointer Option.none) := ⟨Tryz.zeroValue171⟩
instance : IsAggT Tryz.prog 172 := ⟨Tryz.isAgg172⟩
instance : SizeOf Tryz.prog 172 3 := ⟨Tryz.sizeOf172⟩
instance : Und Tryz.prog 172 (Go.TypeDesc.struct #[{ name := "b", type := 36, offset := 0, embedded := Bool.false, tag := "", pkgPath := "cresset/record", byteOffset := 0 }, { name := "at", type := 3, offset := 1, embedded := Bool.false, tag := "", pkgPath := "cresset/record", byteOffset := 24 }, { name := "e", type := 24, offset := 2, embedded := Bool.false, tag := "", pkgPath := "cresset/record", byteOffset := 32 }]) := ⟨Tryz.underlying172⟩
instance : ZeroOf Tryz.prog 172 (Go.Value.agg #[Go.Value.slice Option.none 0 0, Go.Value.int Go.IntKind.i64 0, Go.Value.int Go.IntKind.i64 0]) := ⟨Tryz.zeroValue172⟩
instance : IsAggT Tryz.prog 173 := ⟨Tryz.isAgg173⟩
instance : SizeOf Tryz.prog 173 3 := ⟨Tryz.sizeOf173⟩
instance : Und Tryz.prog 173 (Go.TypeDesc.struct #[{ name := "b", type := 36, offset := 0, embedded := Bool.false, tag := "", pkgPath := "cresset/record", byteOffset := 0 }, { name := "at", type := 3, offset := 1, embedded := Bool.false, tag := "", pkgPath := "cresset/record", byteOffset := 24 }, { name := "e", type := 24, offset := 2, embedded := Bool.false, tag := "", pkgPath := "cresset/record", byteOffset := 32 }]) := ⟨Tryz.underlying173⟩
instance : ZeroOf Tryz.prog 173 (Go.Value.agg #[Go.Value.slice Option.none 0 0, Go.Value.int Go.IntKind.i64 0, Go.Value.int Go.IntKind.i64 0]) := ⟨Tryz.zeroValue173⟩
instance : NonAgg Tryz.prog 174 := ⟨Tryz.isAgg174⟩
instance : SizeOf Tryz.prog 174 1 := ⟨Tryz.sizeOf174⟩
instance : Und Tryz.prog 174 (Go.TypeDesc.func #[179] #[24] Bool.false) := ⟨Tryz.underlying174⟩
instance : ZeroOf Tryz.prog 174 (Go.Value.nilFunc) := ⟨Tryz.zeroValue174⟩
instance : NonAgg Tryz.prog 175 := ⟨Tryz.isAgg175⟩
instance : SizeOf Tryz.prog 175 1 := ⟨Tryz.sizeOf175⟩
instance : Und Tryz.prog 175 (Go.TypeDesc.func #[36] #[2] Bool.false) := ⟨Tryz.underlying175⟩
instance : ZeroOf Tryz.prog 175 (Go.Value.nilFunc) := ⟨Tryz.zeroValue175⟩
instance : NonAgg Tryz.prog 176 := ⟨Tryz.isAgg176⟩
instance : SizeOf Tryz.prog 176 1 := ⟨Tryz.sizeOf176⟩
instance : Und Tryz.prog 176 (Go.TypeDesc.func #[2] #[36] Bool.false) := ⟨Tryz.underlying176⟩
instance : ZeroOf Tryz.prog 176 (Go.Value.nilFunc) := ⟨Tryz.zeroValue176⟩
instance : NonAgg Tryz.prog 177 := ⟨Tryz.isAgg177⟩
instance : SizeOf Tryz.prog 177 1 := ⟨Tryz.sizeOf177⟩
instance : Und Tryz.prog 177 (Go.TypeDesc.func #[36, 161] #[3] Bool.false) := ⟨Tryz.underlying177⟩
instance : ZeroOf Tryz.prog 177 (Go.Value.nilFunc) := ⟨Tryz.zeroValue177⟩
instance : NonAgg Tryz.prog 178 := ⟨Tryz.isAgg178⟩
instance : SizeOf Tryz.prog 178 1 := ⟨Tryz.sizeOf178⟩
instance : Und Tryz.prog 178 (Go.TypeDesc.interface #[("cresset/record.check", 54), ("cresset/record.put", 78)]) := ⟨Tryz.underlying178⟩
instance : ZeroOf Tryz.prog 178 (Go.Value.nilIface) := ⟨Tryz.zeroValue178⟩
instance : Body Tryz.prog 179 := ⟨Tryz.call179⟩
instance : NonAgg Tryz.prog 179 := ⟨Tryz.isAgg179⟩
instance : SizeOf Tryz.prog 179 1 := ⟨Tryz.sizeOf179⟩
instance : Und Tryz.prog 179 (Go.TypeDesc.interface #[("cresset/record.check", 54), ("cresset/record.put", 78)]) := ⟨Tryz.underlying179⟩
instance : ZeroOf Tryz.prog 179 (Go.Value.nilIface) := ⟨Tryz.zeroValue179⟩
instance : Body Tryz.prog 180 := ⟨Tryz.call180⟩
instance : NonAgg Tryz.prog 180 := ⟨Tryz.isAgg180⟩
instance : SizeOf Tryz.prog 180 1 := ⟨Tryz.sizeOf180⟩
instance : Und Tryz.prog 180 (Go.TypeDesc.func #[3] #[4] Bool.false) := ⟨Tryz.underlying180⟩
instance : ZeroOf Tryz.prog 180 (Go.Value.nilFunc) := ⟨Tryz.zeroValue180⟩
instance : Body Tryz.prog 181 := ⟨Tryz.call181⟩
instance : NonAgg Tryz.prog 181 := ⟨Tryz.isAgg181⟩
instance : SizeOf Tryz.prog 181 1 := ⟨Tryz.sizeOf181⟩
instance : Und Tryz.prog 181 (Go.TypeDesc.func #[133, 3, 3, 3] #[] Bool.false) := ⟨Tryz.underlying181⟩
instance : ZeroOf Tryz.prog 181 (Go.Value.nilFunc) := ⟨Tryz.zeroValue181⟩
instance : Body Tryz.prog 182 := ⟨Tryz.call182⟩
instance : NonAgg Tryz.prog 182 := ⟨Tryz.isAgg182⟩
instance : SizeOf Tryz.prog 182 1 := ⟨Tryz.sizeOf182⟩
instance : Und Tryz.prog 182 (Go.TypeDesc.func #[148] #[3] Bool.false) := ⟨Tryz.underlying182⟩
instance : ZeroOf Tryz.prog 182 (Go.Value.nilFunc) := ⟨Tryz.zeroValue182⟩
instance : Body Tryz.prog 183 := ⟨Tryz.call183⟩
instance : NonAgg Tryz.prog 183 := ⟨Tryz.isAgg183⟩
instance : SizeOf Tryz.prog 183 1 := ⟨Tryz.sizeOf183⟩
instance : Und Tryz.prog 183 (Go.TypeDesc.func #[171, 147] #[2] Bool.false) := ⟨Tryz.underlying183⟩
instance : ZeroOf Tryz.prog 183 (Go.Value.nilFunc) := ⟨Tryz.zeroValue183⟩
instance : NonAgg Tryz.prog 184 := ⟨Tryz.isAgg184⟩
instance : SizeOf Tryz.prog 184 1 := ⟨Tryz.sizeOf184⟩
instance : Und Tryz.prog 184 (Go.TypeDesc.pointer 189) := ⟨Tryz.underlying184⟩
instance : ZeroOf Tryz.prog 184 (Go.Value.pointer Option.none) := ⟨Tryz.zeroValue184⟩
instance : NonAgg Tryz.prog 185 := ⟨Tryz.isAgg185⟩
instance : SizeOf Tryz.prog 185 1 := ⟨Tryz.sizeOf185⟩
instance : Und Tryz.prog 185 (Go.TypeDesc.pointer 187) := ⟨Tryz.underlying185⟩
instance : ZeroOf Tryz.prog 185 (Go.Value.pointer Option.none) := ⟨Tryz.zeroValue185⟩
instance : IsAggT Tryz.prog 186 := ⟨Tryz.isAgg186⟩
instance : SizeOf Tryz.prog 186 1 := ⟨Tryz.sizeOf186⟩
instance : Und Tryz.prog 186 (Go.TypeDesc.struct #[{ name := "B", type := 36, offset := 0, embedded := Bool.false, tag := "", pkgPath := "", byteOffset := 0 }]) := ⟨Tryz.underlying186⟩
instance : ZeroOf Tryz.prog 186 (Go.Value.agg #[Go.Value.slice Option.none 0 0]) := ⟨Tryz.zeroValue186⟩
instance : IsAggT Tryz.prog 187 := ⟨Tryz.isAgg187⟩
instance : SizeOf Tryz.prog 187 1 := ⟨Tryz.sizeOf187⟩
instance : Und Tryz.prog 187 (Go.TypeDesc.struct #[{ name := "B", type := 36, offset := 0, embedded := Bool.false, tag := "", pkgPath := "", byteOffset := 0 }]) := ⟨Tryz.underlying187⟩
instance : ZeroOf Tryz.prog 187 (Go.Value.agg #[Go.Value.slice Option.none 0 0]) := ⟨Tryz.zeroValue187⟩
instance : IsAggT Tryz.prog 188 := ⟨Tryz.isAgg188⟩
instance : SizeOf Tryz.prog 188 2 := ⟨Tryz.sizeOf188⟩
instance : Und Tryz.prog 188 (Go.TypeDesc.struct #[{ name := "r", type := 185, offset := 0, embedded := Bool.false, tag := "", pkgPath := "cresset/cressetref03", byteOffset := 0 }, { name := "e", type := 24, offset := 1, embedded := Bool.false, tag := "", pkgPath := "cresset/cressetref03", byteOffset := 8 }]) := ⟨Tryz.underlying188⟩
instance : ZeroOf Tryz.prog 188 (Go.Value.agg #[Go.Value.pointer Option.none, Go.Value.int Go.IntKind.i64 0]) := ⟨Tryz.zeroValue188⟩
instance : IsAggT Tryz.prog 189 := ⟨Tryz.isAgg189⟩
instance : SizeOf Tryz.prog 189 2 := ⟨Tryz.sizeOf189⟩
instance : Und Tryz.prog 189 (Go.TypeDesc.struct #[{ name := "r", type := 185, offset := 0, embedded := Bool.false, tag := "", pkgPath := "cresset/cressetref03", byteOffset := 0 }, { name := "e", type := 24, offset := 1, embedded := Bool.false, tag := "", pkgPath := "cresset/cressetref03", byteOffset := 8 }]) := ⟨Tryz.underlying189⟩
instance : ZeroOf Tryz.prog 189 (Go.Value.agg #[Go.Value.pointer Option.none, Go.Value.int Go.IntKind.i64 0]) := ⟨Tryz.zeroValue189⟩
instance : NonAgg Tryz.prog 190 := ⟨Tryz.isAgg190⟩
instance : SizeOf Tryz.prog 190 1 := ⟨Tryz.sizeOf190⟩
instance : Und Tryz.prog 190 (Go.TypeDesc.func #[155] #[36] Bool.false) := ⟨Tryz.underlying190⟩
instance : ZeroOf Tryz.prog 190 (Go.Value.nilFunc) := ⟨Tryz.zeroValue190⟩
instance : NonAgg Tryz.prog 191 := ⟨Tryz.isAgg191⟩
instance : SizeOf Tryz.prog 191 1 := ⟨Tryz.sizeOf191⟩
instance : Und Tryz.prog 191 (Go.TypeDesc.func #[133, 3, 3] #[] Bool.false) := ⟨Tryz.underlying191⟩
instance : ZeroOf Tryz.prog 191 (Go.Value.nilFunc) := ⟨Tryz.zeroValue191⟩
instance : NonAgg Tryz.prog 192 := ⟨Tryz.isAgg192⟩
instance : SizeOf Tryz.prog 192 1 := ⟨Tryz.sizeOf192⟩
instance : Und Tryz.prog 192 (Go.TypeDesc.int Go.IntKind.i64) := ⟨Tryz.underlying192⟩
instance : ZeroOf Tryz.prog 192 (Go.Value.int Go.IntKind.i64 0) := ⟨Tryz.zeroValue192⟩
instance : NonAgg Tryz.prog 193 := ⟨Tryz.isAgg193⟩
instance : SizeOf Tryz.prog 193 1 := ⟨Tryz.sizeOf193⟩
instance : Und Tryz.prog 193 (Go.TypeDesc.tuple #[3, 192]) := ⟨Tryz.underlying193⟩
instance : ZeroOf Tryz.prog 193 (Go.Value.tuple #[Go.Value.int Go.IntKind.i64 0, Go.Value.int Go.IntKind.i64 0]) := ⟨Tryz.zeroValue193⟩
instance : NonAgg Tryz.prog 194 := ⟨Tryz.isAgg194⟩
instance : SizeOf Tryz.prog 194 1 := ⟨Tryz.sizeOf194⟩
instance : Und Tryz.prog 194 (Go.TypeDesc.func #[133, 3, 3] #[3, 192] Bool.false) := ⟨Tryz.underlying194⟩
instance : ZeroOf Tryz.prog 194 (Go.Value.nilFunc) := ⟨Tryz.zeroValue194⟩
instance : NonAgg Tryz.prog 195 := ⟨Tryz.isAgg195⟩
instance : SizeOf Tryz.prog 195 1 := ⟨Tryz.sizeOf195⟩
instance : Und Tryz.prog 195 (Go.TypeDesc.func #[133, 3, 3] #[4] Bool.false) := ⟨Tryz.underlying195⟩
instance : ZeroOf Tryz.prog 195 (Go.Value.nilFunc) := ⟨Tryz.zeroValue195⟩
instance : NonAgg Tryz.prog 196 := ⟨Tryz.isAgg196⟩
instance : SizeOf Tryz.prog 196 1 := ⟨Tryz.sizeOf196⟩
instance : Und Tryz.prog 196 (Go.TypeDesc.func #[3, 3] #[4] Bool.false) := ⟨Tryz.underlying196⟩
instance : ZeroOf Tryz.prog 196 (Go.Value.nilFunc) := ⟨Tryz.zeroValue196⟩
instance : NonAgg Tryz.prog 197 := ⟨Tryz.isAgg197⟩
instance : SizeOf Tryz.prog 197 1 := ⟨Tryz.sizeOf197⟩
instance : Und Tryz.prog 197 (Go.TypeDesc.func #[133, 3, 3, 3] #[3] Bool.false) := ⟨Tryz.underlying197⟩
instance : ZeroOf Tryz.prog 197 (Go.Value.nilFunc) := ⟨Tryz.zeroValue197⟩
instance : NonAgg Tryz.prog 198 := ⟨Tryz.isAgg198⟩
instance : SizeOf Tryz.prog 198 1 := ⟨Tryz.sizeOf198⟩
instance : Und Tryz.prog 198 (Go.TypeDesc.tuple #[3, 4]) := ⟨Tryz.underlying198⟩
instance : ZeroOf Tryz.prog 198 (Go.Value.tuple #[Go.Value.int Go.IntKind.i64 0, Go.Value.bool Bool.false]) := ⟨Tryz.zeroValue198⟩
instance : NonAgg Tryz.prog 199 := ⟨Tryz.isAgg199⟩
instance : SizeOf Tryz.prog 199 1 := ⟨Tryz.sizeOf199⟩
instance : Und Tryz.prog 199 (Go.TypeDesc.func #[133, 3, 3, 3] #[3, 4] Bool.false) := ⟨Tryz.underlying199⟩
instance : ZeroOf Tryz.prog 199 (Go.Value.nilFunc) := ⟨Tryz.zeroValue199⟩
instance : NonAgg Tryz.prog 200 := ⟨Tryz.isAgg200⟩
instance : SizeOf Tryz.prog 200 1 := ⟨Tryz.sizeOf200⟩
instance : Und Tryz.prog 200 (Go.TypeDesc.func #[140] #[3] Bool.false) := ⟨Tryz.underlying200⟩
instance : ZeroOf Tryz.prog 200 (Go.Value.nilFunc) := ⟨Tryz.zeroValue200⟩
instance : NonAgg Tryz.prog 201 := ⟨Tryz.isAgg201⟩
instance : SizeOf Tryz.prog 201 1 := ⟨Tryz.sizeOf201⟩
instance : Und Tryz.prog 201 (Go.TypeDesc.func #[155] #[3] Bool.false) := ⟨Tryz.underlying201⟩
instance : ZeroOf Tryz.prog 201 (Go.Value.nilFunc) := ⟨Tryz.zeroValue201⟩
instance : NonAgg Tryz.prog 202 := ⟨Tryz.isAgg202⟩
instance : SizeOf Tryz.prog 202 1 := ⟨Tryz.sizeOf202⟩
instance : Und Tryz.prog 202 (Go.TypeDesc.func #[] #[2, 24] Bool.false) := ⟨Tryz.underlying202⟩
instance : ZeroOf Tryz.prog 202 (Go.Value.nilFunc) := ⟨Tryz.zeroValue202⟩
instance : NonAgg Tryz.prog 203 := ⟨Tryz.isAgg203⟩
instance : SizeOf Tryz.prog 203 1 := ⟨Tryz.sizeOf203⟩
instance : Und Tryz.prog 203 (Go.TypeDesc.int Go.IntKind.u64) := ⟨Tryz.underlying203⟩
instance : ZeroOf Tryz.prog 203 (Go.Value.int Go.IntKind.u64 0) := ⟨Tryz.zeroValue203⟩
instance : NonAgg Tryz.prog 204 := ⟨Tryz.isAgg204⟩
instance : SizeOf Tryz.prog 204 1 := ⟨Tryz.sizeOf204⟩
instance : Und Tryz.prog 204 (Go.TypeDesc.func #[3] #[148] Bool.false) := ⟨Tryz.underlying204⟩
instance : ZeroOf Tryz.prog 204 (Go.Value.nilFunc) := ⟨Tryz.zeroValue204⟩
instance : NonAgg Tryz.prog 205 := ⟨Tryz.isAgg205⟩
instance : SizeOf Tryz.prog 205 1 := ⟨Tryz.sizeOf205⟩
instance : Und Tryz.prog 205 (Go.TypeDesc.func #[] #[155] Bool.false) := ⟨Tryz.underlying205⟩
instance : ZeroOf Tryz.prog 205 (Go.Value.nilFunc) := ⟨Tryz.zeroValue205⟩
instance : NonAgg Tryz.prog 206 := ⟨Tryz.isAgg206⟩
instance : SizeOf Tryz.prog 206 1 := ⟨Tryz.sizeOf206⟩
instance : Und Tryz.prog 206 (Go.TypeDesc.func #[133, 3, 207] #[3] Bool.false) := ⟨Tryz.underlying206⟩
instance : ZeroOf Tryz.prog 206 (Go.Value.nilFunc) := ⟨Tryz.zeroValue206⟩
instance : NonAgg Tryz.prog 207 := ⟨Tryz.isAgg207⟩
instance : SizeOf Tryz.prog 207 1 := ⟨Tryz.sizeOf207⟩
instance : Und Tryz.prog 207 (Go.TypeDesc.pointer 3) := ⟨Tryz.underlying207⟩
instance : ZeroOf Tryz.prog 207 (Go.Value.pointer Option.none) := ⟨Tryz.zeroValue207⟩
instance : NonAgg Tryz.prog 208 := ⟨Tryz.isAgg208⟩
instance : SizeOf Tryz.prog 208 1 := ⟨Tryz.sizeOf208⟩
instance : Und Tryz.prog 208 (Go.TypeDesc.func #[133, 3, 3, 3, 207] #[3] Bool.false) := ⟨Tryz.underlying208⟩
instance : ZeroOf Tryz.prog 208 (Go.Value.nilFunc) := ⟨Tryz.zeroValue208⟩
instance : NonAgg Tryz.prog 209 := ⟨Tryz.isAgg209⟩
instance : SizeOf Tryz.prog 209 1 := ⟨Tryz.sizeOf209⟩
instance : Und Tryz.prog 209 (Go.TypeDesc.pointer 203) := ⟨Tryz.underlying209⟩
instance : ZeroOf Tryz.prog 209 (Go.Value.pointer Option.none) := ⟨Tryz.zeroValue209⟩
instance : NonAgg Tryz.prog 210 := ⟨Tryz.isAgg210⟩
instance : SizeOf Tryz.prog 210 1 := ⟨Tryz.sizeOf210⟩
instance : Und Tryz.prog 210 (Go.TypeDesc.tuple #[3, 3]) := ⟨Tryz.underlying210⟩
instance : ZeroOf Tryz.prog 210 (Go.Value.tuple #[Go.Value.int Go.IntKind.i64 0, Go.Value.int Go.IntKind.i64 0]) := ⟨Tryz.zeroValue210⟩
instance : NonAgg Tryz.prog 211 := ⟨Tryz.isAgg211⟩
instance : SizeOf Tryz.prog 211 1 := ⟨Tryz.sizeOf211⟩
instance : Und Tryz.prog 211 (Go.TypeDesc.func #[133, 3, 3, 207] #[3, 3] Bool.false) := ⟨Tryz.underlying211⟩
instance : ZeroOf Tryz.prog 211 (Go.Value.nilFunc) := ⟨Tryz.zeroValue211⟩
instance : NonAgg Tryz.prog 212 := ⟨Tryz.isAgg212⟩
instance : SizeOf Tryz.prog 212 1 := ⟨Tryz.sizeOf212⟩
instance : Und Tryz.prog 212 (Go.TypeDesc.func #[] #[9] Bool.false) := ⟨Tryz.underlying212⟩
instance : ZeroOf Tryz.prog 212 (Go.Value.nilFunc) := ⟨Tryz.zeroValue212⟩
instance : IsAggT Tryz.prog 213 := ⟨Tryz.isAgg213⟩
instance : SizeOf Tryz.prog 213 4 := ⟨Tryz.sizeOf213⟩
instance : Und Tryz.prog 213 (Go.TypeDesc.struct #[{ name := "_interface", type := 17, offset := 0, embedded := Bool.false, tag := "", pkgPath := "runtime", byteOffset := 0 }, { name := "concrete", type := 17, offset := 1, embedded := Bool.false, tag := "", pkgPath := "runtime", byteOffset := 8 }, { name := "asserted", type := 17, offset := 2, embedded := Bool.false, tag := "", pkgPath := "runtime", byteOffset := 16 }, { name := "missingMethod", type := 9, offset := 3, embedded := Bool.false, tag := "", pkgPath := "runtime", byteOffset := 24 }]) := ⟨Tryz.underlying213⟩
instance : ZeroOf Tryz.prog 213 (Go.Value.agg #[Go.Value.pointer Option.none, Go.Value.pointer Option.none, Go.Value.pointer Option.none, Go.Value.string { data := #[] }]) := ⟨Tryz.zeroValue213⟩
instance : IsAggT Tryz.prog 214 := ⟨Tryz.isAgg214⟩
instance : SizeOf Tryz.prog 214 4 := ⟨Tryz.sizeOf214⟩
instance : Und Tryz.prog 214 (Go.TypeDesc.struct #[{ name := "_interface", type := 17, offset := 0, embedded := Bool.false, tag := "", pkgPath := "runtime", byteOffset := 0 }, { name := "concrete", type := 17, offset := 1, embedded := Bool.false, tag := "", pkgPath := "runtime", byteOffset := 8 }, { name := "asserted", type := 17, offset := 2, embedded := Bool.false, tag := "", pkgPath := "runtime", byteOffset := 16 }, { name := "missingMethod", type := 9, offset := 3, embedded := Bool.false, tag := "", pkgPath := "runtime", byteOffset := 24 }]) := ⟨Tryz.underlying214⟩
instance : ZeroOf Tryz.prog 214 (Go.Value.agg #[Go.Value.pointer Option.none, Go.Value.pointer Option.none, Go.Value.pointer Option.none, Go.Value.string { data := #[] }]) := ⟨Tryz.zeroValue214⟩
instance : IsAggT Tryz.prog 215 := ⟨Tryz.isAgg215⟩
instance : SizeOf Tryz.prog 215 0 := ⟨Tryz.sizeOf215⟩
instance : Und Tryz.prog 215 (Go.TypeDesc.array 0 16) := ⟨Tryz.underlying215⟩
instance : ZeroOf Tryz.prog 215 (Go.Value.agg #[]) := ⟨Tryz.zeroValue215⟩
instance : IsAggT Tryz.prog 216 := ⟨Tryz.isAgg216⟩
instance : SizeOf Tryz.prog 216 0 := ⟨Tryz.sizeOf216⟩
instance : Und Tryz.prog 216 (Go.TypeDesc.struct #[{ name := "_", type := 215, offset := 0, embedded := Bool.false, tag := "", pkgPath := "runtime", byteOffset := 0 }]) := ⟨Tryz.underlying216⟩
instance : ZeroOf Tryz.prog 216 (Go.Value.agg #[]) := ⟨Tryz.zeroValue216⟩
instance : IsAggT Tryz.prog 217 := ⟨Tryz.isAgg217⟩
instance : SizeOf Tryz.prog 217 0 := ⟨Tryz.sizeOf217⟩
instance : Und Tryz.prog 217 (Go.TypeDesc.struct #[{ name := "_", type := 215, offset := 0, embedded := Bool.false, tag := "", pkgPath := "runtime", byteOffset := 0 }]) := ⟨Tryz.underlying217⟩
instance : ZeroOf Tryz.prog 217 (Go.Value.agg #[]) := ⟨Tryz.zeroValue217⟩
instance : NonAgg Tryz.prog 218 := ⟨Tryz.isAgg218⟩
instance : SizeOf Tryz.prog 218 1 := ⟨Tryz.sizeOf218⟩
instance : Und Tryz.prog 218 (Go.TypeDesc.int Go.IntKind.u8) := ⟨Tryz.underlying218⟩
instance : ZeroOf Tryz.prog 218 (Go.Value.int Go.IntKind.u8 0) := ⟨Tryz.zeroValue218⟩
instance : NonAgg Tryz.prog 219 := ⟨Tryz.isAgg219⟩
instance : SizeOf Tryz.prog 219 1 := ⟨Tryz.sizeOf219⟩
instance : Und Tryz.prog 219 (Go.TypeDesc.int Go.IntKind.u8) := ⟨Tryz.underlying219⟩
instance : ZeroOf Tryz.prog 219 (Go.Value.int Go.IntKind.u8 0) := ⟨Tryz.zeroValue219⟩
instance : NonAgg Tryz.prog 220 := ⟨Tryz.isAgg220⟩
instance : SizeOf Tryz.prog 220 1 := ⟨Tryz.sizeOf220⟩
instance : Und Tryz.prog 220 (Go.TypeDesc.func #[230, 230] #[4] Bool.false) := ⟨Tryz.underlying220⟩
instance : ZeroOf Tryz.prog 220 (Go.Value.nilFunc) := ⟨Tryz.zeroValue220⟩
instance : NonAgg Tryz.prog 221 := ⟨Tryz.isAgg221⟩
instance : SizeOf Tryz.prog 221 1 := ⟨Tryz.sizeOf221⟩
instance : Und Tryz.prog 221 (Go.TypeDesc.pointer 5) := ⟨Tryz.underlying221⟩
instance : ZeroOf Tryz.prog 221 (Go.Value.pointer Option.none) := ⟨Tryz.zeroValue221⟩
instance : NonAgg Tryz.prog 222 := ⟨Tryz.isAgg222⟩
instance : SizeOf Tryz.prog 222 1 := ⟨Tryz.sizeOf222⟩
instance : Und Tryz.prog 222 (Go.TypeDesc.int Go.IntKind.i32) := ⟨Tryz.underlying222⟩
instance : ZeroOf Tryz.prog 222 (Go.Value.int Go.IntKind.i32 0) := ⟨Tryz.zeroValue222⟩
instance : NonAgg Tryz.prog 223 := ⟨Tryz.isAgg223⟩
instance : SizeOf Tryz.prog 223 1 := ⟨Tryz.sizeOf223⟩
instance : Und Tryz.prog 223 (Go.TypeDesc.int Go.IntKind.i32) := ⟨Tryz.underlying223⟩
instance : ZeroOf Tryz.prog 223 (Go.Value.int Go.IntKind.i32 0) := ⟨Tryz.zeroValue223⟩
instance : IsAggT Tryz.prog 224 := ⟨Tryz.isAgg224⟩
instance : SizeOf Tryz.prog 224 11 := ⟨Tryz.sizeOf224⟩
instance : Und Tryz.prog 224 (Go.TypeDesc.struct #[{ name := "Size_", type := 12, offset := 0, embedded := Bool.false, tag := "", pkgPath := "", byteOffset := 0 }, { name := "PtrBytes", type := 12, offset := 1, embedded := Bool.false, tag := "", pkgPath := "", byteOffset := 8 }, { name := "Hash", type := 140, offset := 2, embedded := Bool.false, tag := "", pkgPath := "", byteOffset := 16 }, { name := "TFlag", type := 218, offset := 3, embedded := Bool.false, tag := "", pkgPath := "", byteOffset := 20 }, { name := "Align_", type := 5, offset := 4, embedded := Bool.false, tag := "", pkgPath := "", byteOffset := 21 }, { name := "FieldAlign_", type := 5, offset := 5, embedded := Bool.false, tag := "", pkgPath := "", byteOffset := 22 }, { name := "Kind_", type := 219, offset := 6, embedded := Bool.false, tag := "", pkgPath := "", byteOffset := 23 }, { name := "Equal", type := 220, offset := 7, embedded := Bool.false, tag := "", pkgPath := "", byteOffset := 24 }, { name := "GCData", type := 221, offset := 8, embedded := Bool.false, tag := "", pkgPath := "", byteOffset := 32 }, { name := "Str", type := 222, offset := 9, embedded := Bool.false, tag := "", pkgPath := "", byteOffset := 40 }, { name := "PtrToThis", type := 223, offset := 10, embedded := Bool.false, tag := "", pkgPath := "", byteOffset := 44 }]) := ⟨Tryz.underlying224⟩
instance : ZeroOf Tryz.prog 224 (Go.Value.agg #[Go.Value.int Go.IntKind.u64 0, Go.Value.int Go.IntKind.u64 0, Go.Value.int Go.IntKind.u32 0, Go.Value.int Go.IntKind.u8 0, Go.Value.int Go.IntKind.u8 0, Go.Value.int Go.IntKind.u8 0, Go.Value.int Go.IntKind.u8 0, Go.Value.nilFunc, Go.Value.pointer Option.none, Go.Value.int Go.IntKind.i32 0, Go.Value.int Go.IntKind.i32 0]) := ⟨Tryz.zeroValue224⟩
instance : IsAggT Tryz.prog 225 := ⟨Tryz.isAgg225⟩
instance : SizeOf Tryz.prog 225 11 := ⟨Tryz.sizeOf225⟩
instance : Und Tryz.prog 225 (Go.TypeDesc.struct #[{ name := "Size_", type := 12, offset := 0, embedded := Bool.false, tag := "", pkgPath := "", byteOffset := 0 }, { name := "PtrBytes", type := 12, offset := 1, embedded := Bool.false, tag := "", pkgPath := "", byteOffset := 8 }, { name := "Hash", type := 140, offset := 2, embedded := Bool.false, tag := "", pkgPath := "", byteOffset := 16 }, { name := "TFlag", type := 218, offset := 3, embedded := Bool.false, tag := "", pkgPath := "", byteOffset := 20 }, { name := "Align_", type := 5, offset := 4, embedded := Bool.false, tag := "", pkgPath := "", byteOffset := 21 }, { name := "FieldAlign_", type := 5, offset := 5, embedded := Bool.false, tag := "", pkgPath := "", byteOffset := 22 }, { name := "Kind_", type := 219, offset := 6, embedded := Bool.false, tag := "", pkgPath := "", byteOffset := 23 }, { name := "Equal", type := 220, offset := 7, embedded := Bool.false, tag := "", pkgPath := "", byteOffset := 24 }, { name := "GCData", type := 221, offset := 8, embedded := Bool.false, tag := "", pkgPath := "", byteOffset := 32 }, { name := "Str", type := 222, offset := 9, embedded := Bool.false, tag := "", pkgPath := "", byteOffset := 40 }, { name := "PtrToThis", type := 223, offset := 10, embedded := Bool.false, tag := "", pkgPath := "", byteOffset := 44 }]) := ⟨Tryz.underlying225⟩
instance : ZeroOf Tryz.prog 225 (Go.Value.agg #[Go.Value.int Go.IntKind.u64 0, Go.Value.int Go.IntKind.u64 0, Go.Value.int Go.IntKind.u32 0, Go.Value.int Go.IntKind.u8 0, Go.Value.int Go.IntKind.u8 0, Go.Value.int Go.IntKind.u8 0, Go.Value.int Go.IntKind.u8 0, Go.Value.nilFunc, Go.Value.pointer Option.none, Go.Value.int Go.IntKind.i32 0, Go.Value.int Go.IntKind.i32 0]) := ⟨Tryz.zeroValue225⟩
instance : IsAggT Tryz.prog 226 := ⟨Tryz.isAgg226⟩
instance : SizeOf Tryz.prog 226 8 := ⟨Tryz.sizeOf226⟩
instance : Und Tryz.prog 226 (Go.TypeDesc.array 8 2) := ⟨Tryz.underlying226⟩
instance : ZeroOf Tryz.prog 226 (Go.Value.agg #[Go.Value.int Go.IntKind.i64 0, Go.Value.int Go.IntKind.i64 0, Go.Value.int Go.IntKind.i64 0, Go.Value.int Go.IntKind.i64 0, Go.Value.int Go.IntKind.i64 0, Go.Value.int Go.IntKind.i64 0, Go.Value.int Go.IntKind.i64 0, Go.Value.int Go.IntKind.i64 0]) := ⟨Tryz.zeroValue226⟩
instance : NonAgg Tryz.prog 227 := ⟨Tryz.isAgg227⟩
instance : SizeOf Tryz.prog 227 1 := ⟨Tryz.sizeOf227⟩
instance : Und Tryz.prog 227 (Go.TypeDesc.func #[4] #[24] Bool.false) := ⟨Tryz.underlying227⟩
instance : ZeroOf Tryz.prog 227 (Go.Value.nilFunc) := ⟨Tryz.zeroValue227⟩
instance : NonAgg Tryz.prog 228 := ⟨Tryz.isAgg228⟩
instance : SizeOf Tryz.prog 228 1 := ⟨Tryz.sizeOf228⟩
instance : Und Tryz.prog 228 (Go.TypeDesc.func #[2, 2] #[4] Bool.false) := ⟨Tryz.underlying228⟩
instance : ZeroOf Tryz.prog 228 (Go.Value.nilFunc) := ⟨Tryz.zeroValue228⟩
instance : NonAgg Tryz.prog 229 := ⟨Tryz.isAgg229⟩
instance : SizeOf Tryz.prog 229 1 := ⟨Tryz.sizeOf229⟩
instance : Und Tryz.prog 229 (Go.TypeDesc.func #[] #[4, 24] Bool.false) := ⟨Tryz.underlying229⟩
instance : ZeroOf Tryz.prog 229 (Go.Value.nilFunc) := ⟨Tryz.zeroValue229⟩
instance : NonAgg Tryz.prog 230 := ⟨Tryz.isAgg230⟩
instance : SizeOf Tryz.prog 230 1 := ⟨Tryz.sizeOf230⟩
instance : Und Tryz.prog 230 (Go.TypeDesc.unsafePointer) := ⟨Tryz.underlying230⟩
instance : ZeroOf Tryz.prog 230 (Go.Value.pointer Option.none) := ⟨Tryz.zeroValue230⟩
instance : Fld Tryz.prog 7 0 0 := Fld.of (z := 0) (t := 2) Tryz.underlying7 rfl Tryz.sizeOf2
instance : Fld Tryz.prog 7 1 1 := Fld.of (z := 0) (t := 3) Tryz.underlying7 rfl Tryz.sizeOf3
instance : Fld Tryz.prog 7 2 2 := Fld.of (z := 0) (t := 4) Tryz.underlying7 rfl Tryz.sizeOf4
instance : Fld Tryz.prog 7 3 3 := Fld.of (z := 0) (t := 6) Tryz.underlying7 rfl Tryz.sizeOf6
instance : Places Tryz.prog 7 [(0, 1), (1, 1), (2, 1), (3, 1)] := ⟨_, Tryz.underlying7, fun w => by simp [Tryz.sizeOf2, Tryz.sizeOf3, Tryz.sizeOf4, Tryz.sizeOf6]⟩
instance : Fld Tryz.prog 8 0 0 := Fld.of (z := 0) (t := 2) Tryz.underlying8 rfl Tryz.sizeOf2
instance : Fld Tryz.prog 8 1 1 := Fld.of (z := 0) (t := 3) Tryz.underlying8 rfl Tryz.sizeOf3
instance : Fld Tryz.prog 8 2 2 := Fld.of (z := 0) (t := 4) Tryz.underlying8 rfl Tryz.sizeOf4
instance : Fld Tryz.prog 8 3 3 := Fld.of (z := 0) (t := 6) Tryz.underlying8 rfl Tryz.sizeOf6
instance : Places Tryz.prog 8 [(0, 1), (1, 1), (2, 1), (3, 1)] := ⟨_, Tryz.underlying8, fun w => by simp [Tryz.sizeOf2, Tryz.sizeOf3, Tryz.sizeOf4, Tryz.sizeOf6]⟩
instance : Fld Tryz.prog 13 0 0 := Fld.of (z := 0) (t := 9) Tryz.underlying13 rfl Tryz.sizeOf9
instance : Fld Tryz.prog 13 1 1 := Fld.of (z := 0) (t := 12) Tryz.underlying13 rfl Tryz.sizeOf12
instance : Places Tryz.prog 13 [(0, 1), (1, 1)] := ⟨_, Tryz.underlying13, fun w => by simp [Tryz.sizeOf12, Tryz.sizeOf9]⟩
instance : Fld Tryz.prog 14 0 0 := Fld.of (z := 0) (t := 9) Tryz.underlying14 rfl Tryz.sizeOf9
instance : Fld Tryz.prog 14 1 1 := Fld.of (z := 0) (t := 12) Tryz.underlying14 rfl Tryz.sizeOf12
instance : Places Tryz.prog 14 [(0, 1), (1, 1)] := ⟨_, Tryz.underlying14, fun w => by simp [Tryz.sizeOf12, Tryz.sizeOf9]⟩
instance : Fld Tryz.prog 18 0 0 := Fld.of (z := 0) (t := 17) Tryz.underlying18 rfl Tryz.sizeOf17
instance : Places Tryz.prog 18 [(0, 1)] := ⟨_, Tryz.underlying18, fun w => by simp [Tryz.sizeOf17]⟩
instance : Fld Tryz.prog 19 0 0 := Fld.of (z := 0) (t := 17) Tryz.underlying19 rfl Tryz.sizeOf17
instance : Places Tryz.prog 19 [(0, 1)] := ⟨_, Tryz.underlying19, fun w => by simp [Tryz.sizeOf17]⟩
instance : Fld Tryz.prog 32 0 0 := Fld.of (z := 0) (t := 2) Tryz.underlying32 rfl Tryz.sizeOf2
instance : Fld Tryz.prog 32 1 1 := Fld.of (z := 0) (t := 3) Tryz.underlying32 rfl Tryz.sizeOf3
instance : Fld Tryz.prog 32 2 2 := Fld.of (z := 0) (t := 2) Tryz.underlying32 rfl Tryz.sizeOf2
instance : Fld Tryz.prog 32 3 3 := Fld.of (z := 0) (t := 2) Tryz.underlying32 rfl Tryz.sizeOf2
instance : Places Tryz.prog 32 [(0, 1), (1, 1), (2, 1), (3, 1)] := ⟨_, Tryz.underlying32, fun w => by simp [Tryz.sizeOf2, Tryz.sizeOf3]⟩
instance : Fld Tryz.prog 33 0 0 := Fld.of (z := 0) (t := 2) Tryz.underlying33 rfl Tryz.sizeOf2
instance : Fld Tryz.prog 33 1 1 := Fld.of (z := 0) (t := 3) Tryz.underlying33 rfl Tryz.sizeOf3
instance : Fld Tryz.prog 33 2 2 := Fld.of (z := 0) (t := 2) Tryz.underlying33 rfl Tryz.sizeOf2
instance : Fld Tryz.prog 33 3 3 := Fld.of (z := 0) (t := 2) Tryz.underlying33 rfl Tryz.sizeOf2
instance : Places Tryz.prog 33 [(0, 1), (1, 1), (2, 1), (3, 1)] := ⟨_, Tryz.underlying33, fun w => by simp [Tryz.sizeOf2, Tryz.sizeOf3]⟩
instance : Fld Tryz.prog 34 0 0 := Fld.of (z := 0) (t := 2) Tryz.underlying34 rfl Tryz.sizeOf2
instance : Fld Tryz.prog 34 1 1 := Fld.of (z := 0) (t := 3) Tryz.underlying34 rfl Tryz.sizeOf3
instance : Fld Tryz.prog 34 2 2 := Fld.of (z := 0) (t := 3) Tryz.underlying34 rfl Tryz.sizeOf3
instance : Fld Tryz.prog 34 3 3 := Fld.of (z := 0) (t := 2) Tryz.underlying34 rfl Tryz.sizeOf2
instance : Fld Tryz.prog 34 4 4 := Fld.of (z := 3) (t := 33) Tryz.underlying34 rfl Tryz.sizeOf33
instance : Places Tryz.prog 34 [(0, 1), (1, 1), (2, 1), (3, 1), (4, 4)] := ⟨_, Tryz.underlying34, fun w => by simp [Tryz.sizeOf2, Tryz.sizeOf3, Tryz.sizeOf33]⟩
instance : Fld Tryz.prog 35 0 0 := Fld.of (z := 0) (t := 2) Tryz.underlying35 rfl Tryz.sizeOf2
instance : Fld Tryz.prog 35 1 1 := Fld.of (z := 0) (t := 3) Tryz.underlying35 rfl Tryz.sizeOf3
instance : Fld Tryz.prog 35 2 2 := Fld.of (z := 0) (t := 3) Tryz.underlying35 rfl Tryz.sizeOf3
instance : Fld Tryz.prog 35 3 3 := Fld.of (z := 0) (t := 2) Tryz.underlying35 rfl Tryz.sizeOf2
instance : Fld Tryz.prog 35 4 4 := Fld.of (z := 3) (t := 33) Tryz.underlying35 rfl Tryz.sizeOf33
instance : Places Tryz.prog 35 [(0, 1), (1, 1), (2, 1), (3, 1), (4, 4)] := ⟨_, Tryz.underlying35, fun w => by simp [Tryz.sizeOf2, Tryz.sizeOf3, Tryz.sizeOf33]⟩
instance : Fld Tryz.prog 38 0 0 := Fld.of (z := 0) (t := 3) Tryz.underlying38 rfl Tryz.sizeOf3
instance : Fld Tryz.prog 38 1 1 := Fld.of (z := 7) (t := 35) Tryz.underlying38 rfl Tryz.sizeOf35
instance : Fld Tryz.prog 38 2 9 := Fld.of (z := 0) (t := 3) Tryz.underlying38 rfl Tryz.sizeOf3
instance : Fld Tryz.prog 38 3 10 := Fld.of (z := 0) (t := 36) Tryz.underlying38 rfl Tryz.sizeOf36
instance : Fld Tryz.prog 38 4 11 := Fld.of (z := 0) (t := 3) Tryz.underlying38 rfl Tryz.sizeOf3
instance : Fld Tryz.prog 38 5 12 := Fld.of (z := 0) (t := 37) Tryz.underlying38 rfl Tryz.sizeOf37
instance : Places Tryz.prog 38 [(0, 1), (1, 8), (9, 1), (10, 1), (11, 1), (12, 1)] := ⟨_, Tryz.underlying38, fun w => by simp [Tryz.sizeOf3, Tryz.sizeOf35, Tryz.sizeOf36, Tryz.sizeOf37]⟩
instance : Fld Tryz.prog 39 0 0 := Fld.of (z := 0) (t := 3) Tryz.underlying39 rfl Tryz.sizeOf3
instance : Fld Tryz.prog 39 1 1 := Fld.of (z := 7) (t := 35) Tryz.underlying39 rfl Tryz.sizeOf35
instance : Fld Tryz.prog 39 2 9 := Fld.of (z := 0) (t := 3) Tryz.underlying39 rfl Tryz.sizeOf3
instance : Fld Tryz.prog 39 3 10 := Fld.of (z := 0) (t := 36) Tryz.underlying39 rfl Tryz.sizeOf36
instance : Fld Tryz.prog 39 4 11 := Fld.of (z := 0) (t := 3) Tryz.underlying39 rfl Tryz.sizeOf3
instance : Fld Tryz.prog 39 5 12 := Fld.of (z := 0) (t := 37) Tryz.underlying39 rfl Tryz.sizeOf37
instance : Places Tryz.prog 39 [(0, 1), (1, 8), (9, 1), (10, 1), (11, 1), (12, 1)] := ⟨_, Tryz.underlying39, fun w => by simp [Tryz.sizeOf3, Tryz.sizeOf35, Tryz.sizeOf36, Tryz.sizeOf37]⟩
instance : Fld Tryz.prog 47 0 0 := Fld.of (z := 0) (t := 3) Tryz.underlying47 rfl Tryz.sizeOf3
instance : Fld Tryz.prog 47 1 1 := Fld.of (z := 0) (t := 36) Tryz.underlying47 rfl Tryz.sizeOf36
instance : Fld Tryz.prog 47 2 2 := Fld.of (z := 0) (t := 3) Tryz.underlying47 rfl Tryz.sizeOf3
instance : Fld Tryz.prog 47 3 3 := Fld.of (z := 0) (t := 37) Tryz.underlying47 rfl Tryz.sizeOf37
instance : Fld Tryz.prog 47 4 4 := Fld.of (z := 3) (t := 33) Tryz.underlying47 rfl Tryz.sizeOf33
instance : Fld Tryz.prog 47 5 8 := Fld.of (z := 0) (t := 4) Tryz.underlying47 rfl Tryz.sizeOf4
instance : Places Tryz.prog 47 [(0, 1), (1, 1), (2, 1), (3, 1), (4, 4), (8, 1)] := ⟨_, Tryz.underlying47, fun w => by simp [Tryz.sizeOf3, Tryz.sizeOf33, Tryz.sizeOf36, Tryz.sizeOf37, Tryz.sizeOf4]⟩
instance : Fld Tryz.prog 48 0 0 := Fld.of (z := 0) (t := 3) Tryz.underlying48 rfl Tryz.sizeOf3
instance : Fld Tryz.prog 48 1 1 := Fld.of (z := 0) (t := 36) Tryz.underlying48 rfl Tryz.sizeOf36
instance : Fld Tryz.prog 48 2 2 := Fld.of (z := 0) (t := 3) Tryz.underlying48 rfl Tryz.sizeOf3
instance : Fld Tryz.prog 48 3 3 := Fld.of (z := 0) (t := 37) Tryz.underlying48 rfl Tryz.sizeOf37
instance : Fld Tryz.prog 48 4 4 := Fld.of (z := 3) (t := 33) Tryz.underlying48 rfl Tryz.sizeOf33
instance : Fld Tryz.prog 48 5 8 := Fld.of (z := 0) (t := 4) Tryz.underlying48 rfl Tryz.sizeOf4
instance : Places Tryz.prog 48 [(0, 1), (1, 1), (2, 1), (3, 1), (4, 4), (8, 1)] := ⟨_, Tryz.underlying48, fun w => by simp [Tryz.sizeOf3, Tryz.sizeOf33, Tryz.sizeOf36, Tryz.sizeOf37, Tryz.sizeOf4]⟩
instance : Fld Tryz.prog 52 0 0 := Fld.of (z := 0) (t := 23) Tryz.underlying52 rfl Tryz.sizeOf23
instance : Fld Tryz.prog 52 1 1 := Fld.of (z := 0) (t := 50) Tryz.underlying52 rfl Tryz.sizeOf50
instance : Fld Tryz.prog 52 2 2 := Fld.of (z := 0) (t := 27) Tryz.underlying52 rfl Tryz.sizeOf27
instance : Fld Tryz.prog 52 3 3 := Fld.of (z := 0) (t := 51) Tryz.underlying52 rfl Tryz.sizeOf51
instance : Places Tryz.prog 52 [(0, 1), (1, 1), (2, 1), (3, 1)] := ⟨_, Tryz.underlying52, fun w => by simp [Tryz.sizeOf23, Tryz.sizeOf27, Tryz.sizeOf50, Tryz.sizeOf51]⟩
instance : Fld Tryz.prog 53 0 0 := Fld.of (z := 0) (t := 23) Tryz.underlying53 rfl Tryz.sizeOf23
instance : Fld Tryz.prog 53 1 1 := Fld.of (z := 0) (t := 50) Tryz.underlying53 rfl Tryz.sizeOf50
instance : Fld Tryz.prog 53 2 2 := Fld.of (z := 0) (t := 27) Tryz.underlying53 rfl Tryz.sizeOf27
instance : Fld Tryz.prog 53 3 3 := Fld.of (z := 0) (t := 51) Tryz.underlying53 rfl Tryz.sizeOf51
instance : Places Tryz.prog 53 [(0, 1), (1, 1), (2, 1), (3, 1)] := ⟨_, Tryz.underlying53, fun w => by simp [Tryz.sizeOf23, Tryz.sizeOf27, Tryz.sizeOf50, Tryz.sizeOf51]⟩
instance : Fld Tryz.prog 67 0 0 := Fld.of (z := 0) (t := 59) Tryz.underlying67 rfl Tryz.sizeOf59
instance : Fld Tryz.prog 67 1 1 := Fld.of (z := 0) (t := 66) Tryz.underlying67 rfl Tryz.sizeOf66
instance : Fld Tryz.prog 67 2 2 := Fld.of (z := 0) (t := 4) Tryz.underlying67 rfl Tryz.sizeOf4
instance : Fld Tryz.prog 67 3 3 := Fld.of (z := 0) (t := 2) Tryz.underlying67 rfl Tryz.sizeOf2
instance : Fld Tryz.prog 67 4 4 := Fld.of (z := 0) (t := 3) Tryz.underlying67 rfl Tryz.sizeOf3
instance : Fld Tryz.prog 67 5 5 := Fld.of (z := 0) (t := 37) Tryz.underlying67 rfl Tryz.sizeOf37
instance : Places Tryz.prog 67 [(0, 1), (1, 1), (2, 1), (3, 1), (4, 1), (5, 1)] := ⟨_, Tryz.underlying67, fun w => by simp [Tryz.sizeOf2, Tryz.sizeOf3, Tryz.sizeOf37, Tryz.sizeOf4, Tryz.sizeOf59, Tryz.sizeOf66]⟩
instance : Fld Tryz.prog 68 0 0 := Fld.of (z := 0) (t := 59) Tryz.underlying68 rfl Tryz.sizeOf59
instance : Fld Tryz.prog 68 1 1 := Fld.of (z := 0) (t := 66) Tryz.underlying68 rfl Tryz.sizeOf66
instance : Fld Tryz.prog 68 2 2 := Fld.of (z := 0) (t := 4) Tryz.underlying68 rfl Tryz.sizeOf4
instance : Fld Tryz.prog 68 3 3 := Fld.of (z := 0) (t := 2) Tryz.underlying68 rfl Tryz.sizeOf2
instance : Fld Tryz.prog 68 4 4 := Fld.of (z := 0) (t := 3) Tryz.underlying68 rfl Tryz.sizeOf3
instance : Fld Tryz.prog 68 5 5 := Fld.of (z := 0) (t := 37) Tryz.underlying68 rfl Tryz.sizeOf37
instance : Places Tryz.prog 68 [(0, 1), (1, 1), (2, 1), (3, 1), (4, 1), (5, 1)] := ⟨_, Tryz.underlying68, fun w => by simp [Tryz.sizeOf2, Tryz.sizeOf3, Tryz.sizeOf37, Tryz.sizeOf4, Tryz.sizeOf59, Tryz.sizeOf66]⟩
instance : Fld Tryz.prog 70 0 0 := Fld.of (z := 0) (t := 69) Tryz.underlying70 rfl Tryz.sizeOf69
instance : Fld Tryz.prog 70 1 1 := Fld.of (z := 0) (t := 69) Tryz.underlying70 rfl Tryz.sizeOf69
instance : Fld Tryz.prog 70 2 2 := Fld.of (z := 0) (t := 37) Tryz.underlying70 rfl Tryz.sizeOf37
instance : Fld Tryz.prog 70 3 3 := Fld.of (z := 0) (t := 3) Tryz.underlying70 rfl Tryz.sizeOf3
instance : Fld Tryz.prog 70 4 4 := Fld.of (z := 0) (t := 37) Tryz.underlying70 rfl Tryz.sizeOf37
instance : Fld Tryz.prog 70 5 5 := Fld.of (z := 0) (t := 2) Tryz.underlying70 rfl Tryz.sizeOf2
instance : Fld Tryz.prog 70 6 6 := Fld.of (z := 0) (t := 4) Tryz.underlying70 rfl Tryz.sizeOf4
instance : Places Tryz.prog 70 [(0, 1), (1, 1), (2, 1), (3, 1), (4, 1), (5, 1), (6, 1)] := ⟨_, Tryz.underlying70, fun w => by simp [Tryz.sizeOf2, Tryz.sizeOf3, Tryz.sizeOf37, Tryz.sizeOf4, Tryz.sizeOf69]⟩
instance : Fld Tryz.prog 71 0 0 := Fld.of (z := 0) (t := 69) Tryz.underlying71 rfl Tryz.sizeOf69
instance : Fld Tryz.prog 71 1 1 := Fld.of (z := 0) (t := 69) Tryz.underlying71 rfl Tryz.sizeOf69
instance : Fld Tryz.prog 71 2 2 := Fld.of (z := 0) (t := 37) Tryz.underlying71 rfl Tryz.sizeOf37
instance : Fld Tryz.prog 71 3 3 := Fld.of (z := 0) (t := 3) Tryz.underlying71 rfl Tryz.sizeOf3
instance : Fld Tryz.prog 71 4 4 := Fld.of (z := 0) (t := 37) Tryz.underlying71 rfl Tryz.sizeOf37
instance : Fld Tryz.prog 71 5 5 := Fld.of (z := 0) (t := 2) Tryz.underlying71 rfl Tryz.sizeOf2
instance : Fld Tryz.prog 71 6 6 := Fld.of (z := 0) (t := 4) Tryz.underlying71 rfl Tryz.sizeOf4
instance : Places Tryz.prog 71 [(0, 1), (1, 1), (2, 1), (3, 1), (4, 1), (5, 1), (6, 1)] := ⟨_, Tryz.underlying71, fun w => by simp [Tryz.sizeOf2, Tryz.sizeOf3, Tryz.sizeOf37, Tryz.sizeOf4, Tryz.sizeOf69]⟩
instance : Fld Tryz.prog 103 0 0 := Fld.of (z := 0) (t := 23) Tryz.underlying103 rfl Tryz.sizeOf23
instance : Fld Tryz.prog 103 1 1 := Fld.of (z := 0) (t := 3) Tryz.underlying103 rfl Tryz.sizeOf3
instance : Fld Tryz.prog 103 2 2 := Fld.of (z := 0) (t := 3) Tryz.underlying103 rfl Tryz.sizeOf3
instance : Fld Tryz.prog 103 3 3 := Fld.of (z := 0) (t := 2) Tryz.underlying103 rfl Tryz.sizeOf2
instance : Fld Tryz.prog 103 4 4 := Fld.of (z := 0) (t := 2) Tryz.underlying103 rfl Tryz.sizeOf2
instance : Fld Tryz.prog 103 5 5 := Fld.of (z := 0) (t := 2) Tryz.underlying103 rfl Tryz.sizeOf2
instance : Fld Tryz.prog 103 6 6 := Fld.of (z := 0) (t := 36) Tryz.underlying103 rfl Tryz.sizeOf36
instance : Fld Tryz.prog 103 7 7 := Fld.of (z := 0) (t := 101) Tryz.underlying103 rfl Tryz.sizeOf101
instance : Fld Tryz.prog 103 8 8 := Fld.of (z := 3) (t := 33) Tryz.underlying103 rfl Tryz.sizeOf33
instance : Fld Tryz.prog 103 9 12 := Fld.of (z := 0) (t := 102) Tryz.underlying103 rfl Tryz.sizeOf102
instance : Fld Tryz.prog 103 10 13 := Fld.of (z := 0) (t := 2) Tryz.underlying103 rfl Tryz.sizeOf2
instance : Fld Tryz.prog 103 11 14 := Fld.of (z := 0) (t := 2) Tryz.underlying103 rfl Tryz.sizeOf2
instance : Fld Tryz.prog 103 12 15 := Fld.of (z := 0) (t := 4) Tryz.underlying103 rfl Tryz.sizeOf4
instance : Places Tryz.prog 103 [(0, 1), (1, 1), (2, 1), (3, 1), (4, 1), (5, 1), (6, 1), (7, 1), (8, 4), (12, 1), (13, 1), (14, 1), (15, 1)] := ⟨_, Tryz.underlying103, fun w => by simp [Tryz.sizeOf101, Tryz.sizeOf102, Tryz.sizeOf2, Tryz.sizeOf23, Tryz.sizeOf3, Tryz.sizeOf33, Tryz.sizeOf36, Tryz.sizeOf4]⟩
instance : Fld Tryz.prog 104 0 0 := Fld.of (z := 0) (t := 23) Tryz.underlying104 rfl Tryz.sizeOf23
instance : Fld Tryz.prog 104 1 1 := Fld.of (z := 0) (t := 3) Tryz.underlying104 rfl Tryz.sizeOf3
instance : Fld Tryz.prog 104 2 2 := Fld.of (z := 0) (t := 3) Tryz.underlying104 rfl Tryz.sizeOf3
instance : Fld Tryz.prog 104 3 3 := Fld.of (z := 0) (t := 2) Tryz.underlying104 rfl Tryz.sizeOf2
instance : Fld Tryz.prog 104 4 4 := Fld.of (z := 0) (t := 2) Tryz.underlying104 rfl Tryz.sizeOf2
instance : Fld Tryz.prog 104 5 5 := Fld.of (z := 0) (t := 2) Tryz.underlying104 rfl Tryz.sizeOf2
instance : Fld Tryz.prog 104 6 6 := Fld.of (z := 0) (t := 36) Tryz.underlying104 rfl Tryz.sizeOf36
instance : Fld Tryz.prog 104 7 7 := Fld.of (z := 0) (t := 101) Tryz.underlying104 rfl Tryz.sizeOf101
instance : Fld Tryz.prog 104 8 8 := Fld.of (z := 3) (t := 33) Tryz.underlying104 rfl Tryz.sizeOf33
instance : Fld Tryz.prog 104 9 12 := Fld.of (z := 0) (t := 102) Tryz.underlying104 rfl Tryz.sizeOf102
instance : Fld Tryz.prog 104 10 13 := Fld.of (z := 0) (t := 2) Tryz.underlying104 rfl Tryz.sizeOf2
instance : Fld Tryz.prog 104 11 14 := Fld.of (z := 0) (t := 2) Tryz.underlying104 rfl Tryz.sizeOf2
instance : Fld Tryz.prog 104 12 15 := Fld.of (z := 0) (t := 4) Tryz.underlying104 rfl Tryz.sizeOf4
instance : Places Tryz.prog 104 [(0, 1), (1, 1), (2, 1), (3, 1), (4, 1), (5, 1), (6, 1), (7, 1), (8, 4), (12, 1), (13, 1), (14, 1), (15, 1)] := ⟨_, Tryz.underlying104, fun w => by simp [Tryz.sizeOf101, Tryz.sizeOf102, Tryz.sizeOf2, Tryz.sizeOf23, Tryz.sizeOf3, Tryz.sizeOf33, Tryz.sizeOf36, Tryz.sizeOf4]⟩
instance : Fld Tryz.prog 110 0 0 := Fld.of (z := 0) (t := 4) Tryz.underlying110 rfl Tryz.sizeOf4
instance : Fld Tryz.prog 110 1 1 := Fld.of (z := 0) (t := 2) Tryz.underlying110 rfl Tryz.sizeOf2
instance : Fld Tryz.prog 110 2 2 := Fld.of (z := 0) (t := 2) Tryz.underlying110 rfl Tryz.sizeOf2
instance : Fld Tryz.prog 110 3 3 := Fld.of (z := 0) (t := 2) Tryz.underlying110 rfl Tryz.sizeOf2
instance : Fld Tryz.prog 110 4 4 := Fld.of (z := 0) (t := 36) Tryz.underlying110 rfl Tryz.sizeOf36
instance : Places Tryz.prog 110 [(0, 1), (1, 1), (2, 1), (3, 1), (4, 1)] := ⟨_, Tryz.underlying110, fun w => by simp [Tryz.sizeOf2, Tryz.sizeOf36, Tryz.sizeOf4]⟩
instance : Fld Tryz.prog 111 0 0 := Fld.of (z := 0) (t := 4) Tryz.underlying111 rfl Tryz.sizeOf4
instance : Fld Tryz.prog 111 1 1 := Fld.of (z := 0) (t := 2) Tryz.underlying111 rfl Tryz.sizeOf2
instance : Fld Tryz.prog 111 2 2 := Fld.of (z := 0) (t := 2) Tryz.underlying111 rfl Tryz.sizeOf2
instance : Fld Tryz.prog 111 3 3 := Fld.of (z := 0) (t := 2) Tryz.underlying111 rfl Tryz.sizeOf2
instance : Fld Tryz.prog 111 4 4 := Fld.of (z := 0) (t := 36) Tryz.underlying111 rfl Tryz.sizeOf36
instance : Places Tryz.prog 111 [(0, 1), (1, 1), (2, 1), (3, 1), (4, 1)] := ⟨_, Tryz.underlying111, fun w => by simp [Tryz.sizeOf2, Tryz.sizeOf36, Tryz.sizeOf4]⟩
instance : Fld Tryz.prog 117 0 0 := Fld.of (z := 0) (t := 2) Tryz.underlying117 rfl Tryz.sizeOf2
instance : Fld Tryz.prog 117 1 1 := Fld.of (z := 0) (t := 36) Tryz.underlying117 rfl Tryz.sizeOf36
instance : Places Tryz.prog 117 [(0, 1), (1, 1)] := ⟨_, Tryz.underlying117, fun w => by simp [Tryz.sizeOf2, Tryz.sizeOf36]⟩
instance : Fld Tryz.prog 118 0 0 := Fld.of (z := 0) (t := 2) Tryz.underlying118 rfl Tryz.sizeOf2
instance : Fld Tryz.prog 118 1 1 := Fld.of (z := 0) (t := 36) Tryz.underlying118 rfl Tryz.sizeOf36
instance : Places Tryz.prog 118 [(0, 1), (1, 1)] := ⟨_, Tryz.underlying118, fun w => by simp [Tryz.sizeOf2, Tryz.sizeOf36]⟩
instance : Fld Tryz.prog 134 0 0 := Fld.of (z := 0) (t := 27) Tryz.underlying134 rfl Tryz.sizeOf27
instance : Fld Tryz.prog 134 1 1 := Fld.of (z := 0) (t := 3) Tryz.underlying134 rfl Tryz.sizeOf3
instance : Fld Tryz.prog 134 2 2 := Fld.of (z := 0) (t := 3) Tryz.underlying134 rfl Tryz.sizeOf3
instance : Fld Tryz.prog 134 3 3 := Fld.of (z := 0) (t := 2) Tryz.underlying134 rfl Tryz.sizeOf2
instance : Fld Tryz.prog 134 4 4 := Fld.of (z := 0) (t := 2) Tryz.underlying134 rfl Tryz.sizeOf2
instance : Fld Tryz.prog 134 5 5 := Fld.of (z := 0) (t := 36) Tryz.underlying134 rfl Tryz.sizeOf36
instance : Fld Tryz.prog 134 6 6 := Fld.of (z := 3) (t := 33) Tryz.underlying134 rfl Tryz.sizeOf33
instance : Fld Tryz.prog 134 7 10 := Fld.of (z := 0) (t := 133) Tryz.underlying134 rfl Tryz.sizeOf133
instance : Fld Tryz.prog 134 8 11 := Fld.of (z := 0) (t := 59) Tryz.underlying134 rfl Tryz.sizeOf59
instance : Fld Tryz.prog 134 9 12 := Fld.of (z := 0) (t := 3) Tryz.underlying134 rfl Tryz.sizeOf3
instance : Fld Tryz.prog 134 10 13 := Fld.of (z := 0) (t := 101) Tryz.underlying134 rfl Tryz.sizeOf101
instance : Fld Tryz.prog 134 11 14 := Fld.of (z := 0) (t := 2) Tryz.underlying134 rfl Tryz.sizeOf2
instance : Fld Tryz.prog 134 12 15 := Fld.of (z := 0) (t := 4) Tryz.underlying134 rfl Tryz.sizeOf4
instance : Places Tryz.prog 134 [(0, 1), (1, 1), (2, 1), (3, 1), (4, 1), (5, 1), (6, 4), (10, 1), (11, 1), (12, 1), (13, 1), (14, 1), (15, 1)] := ⟨_, Tryz.underlying134, fun w => by simp [Tryz.sizeOf101, Tryz.sizeOf133, Tryz.sizeOf2, Tryz.sizeOf27, Tryz.sizeOf3, Tryz.sizeOf33, Tryz.sizeOf36, Tryz.sizeOf4, Tryz.sizeOf59]⟩
instance : Fld Tryz.prog 135 0 0 := Fld.of (z := 0) (t := 27) Tryz.underlying135 rfl Tryz.sizeOf27
instance : Fld Tryz.prog 135 1 1 := Fld.of (z := 0) (t := 3) Tryz.underlying135 rfl Tryz.sizeOf3
instance : Fld Tryz.prog 135 2 2 := Fld.of (z := 0) (t := 3) Tryz.underlying135 rfl Tryz.sizeOf3
instance : Fld Tryz.prog 135 3 3 := Fld.of (z := 0) (t := 2) Tryz.underlying135 rfl Tryz.sizeOf2
instance : Fld Tryz.prog 135 4 4 := Fld.of (z := 0) (t := 2) Tryz.underlying135 rfl Tryz.sizeOf2
instance : Fld Tryz.prog 135 5 5 := Fld.of (z := 0) (t := 36) Tryz.underlying135 rfl Tryz.sizeOf36
instance : Fld Tryz.prog 135 6 6 := Fld.of (z := 3) (t := 33) Tryz.underlying135 rfl Tryz.sizeOf33
instance : Fld Tryz.prog 135 7 10 := Fld.of (z := 0) (t := 133) Tryz.underlying135 rfl Tryz.sizeOf133
instance : Fld Tryz.prog 135 8 11 := Fld.of (z := 0) (t := 59) Tryz.underlying135 rfl Tryz.sizeOf59
instance : Fld Tryz.prog 135 9 12 := Fld.of (z := 0) (t := 3) Tryz.underlying135 rfl Tryz.sizeOf3
instance : Fld Tryz.prog 135 10 13 := Fld.of (z := 0) (t := 101) Tryz.underlying135 rfl Tryz.sizeOf101
instance : Fld Tryz.prog 135 11 14 := Fld.of (z := 0) (t := 2) Tryz.underlying135 rfl Tryz.sizeOf2
instance : Fld Tryz.prog 135 12 15 := Fld.of (z := 0) (t := 4) Tryz.underlying135 rfl Tryz.sizeOf4
instance : Places Tryz.prog 135 [(0, 1), (1, 1), (2, 1), (3, 1), (4, 1), (5, 1), (6, 4), (10, 1), (11, 1), (12, 1), (13, 1), (14, 1), (15, 1)] := ⟨_, Tryz.underlying135, fun w => by simp [Tryz.sizeOf101, Tryz.sizeOf133, Tryz.sizeOf2, Tryz.sizeOf27, Tryz.sizeOf3, Tryz.sizeOf33, Tryz.sizeOf36, Tryz.sizeOf4, Tryz.sizeOf59]⟩
instance : Fld Tryz.prog 164 0 0 := Fld.of (z := 7) (t := 35) Tryz.underlying164 rfl Tryz.sizeOf35
instance : Places Tryz.prog 164 [(0, 8)] := ⟨_, Tryz.underlying164, fun w => by simp [Tryz.sizeOf35]⟩
instance : Fld Tryz.prog 165 0 0 := Fld.of (z := 7) (t := 35) Tryz.underlying165 rfl Tryz.sizeOf35
instance : Places Tryz.prog 165 [(0, 8)] := ⟨_, Tryz.underlying165, fun w => by simp [Tryz.sizeOf35]⟩
instance : Fld Tryz.prog 172 0 0 := Fld.of (z := 0) (t := 36) Tryz.underlying172 rfl Tryz.sizeOf36
instance : Fld Tryz.prog 172 1 1 := Fld.of (z := 0) (t := 3) Tryz.underlying172 rfl Tryz.sizeOf3
instance : Fld Tryz.prog 172 2 2 := Fld.of (z := 0) (t := 24) Tryz.underlying172 rfl Tryz.sizeOf24
instance : Places Tryz.prog 172 [(0, 1), (1, 1), (2, 1)] := ⟨_, Tryz.underlying172, fun w => by simp [Tryz.sizeOf24, Tryz.sizeOf3, Tryz.sizeOf36]⟩
instance : Fld Tryz.prog 173 0 0 := Fld.of (z := 0) (t := 36) Tryz.underlying173 rfl Tryz.sizeOf36
instance : Fld Tryz.prog 173 1 1 := Fld.of (z := 0) (t := 3) Tryz.underlying173 rfl Tryz.sizeOf3
instance : Fld Tryz.prog 173 2 2 := Fld.of (z := 0) (t := 24) Tryz.underlying173 rfl Tryz.sizeOf24
instance : Places Tryz.prog 173 [(0, 1), (1, 1), (2, 1)] := ⟨_, Tryz.underlying173, fun w => by simp [Tryz.sizeOf24, Tryz.sizeOf3, Tryz.sizeOf36]⟩
instance : Fld Tryz.prog 186 0 0 := Fld.of (z := 0) (t := 36) Tryz.underlying186 rfl Tryz.sizeOf36
instance : Places Tryz.prog 186 [(0, 1)] := ⟨_, Tryz.underlying186, fun w => by simp [Tryz.sizeOf36]⟩
instance : Fld Tryz.prog 187 0 0 := Fld.of (z := 0) (t := 36) Tryz.underlying187 rfl Tryz.sizeOf36
instance : Places Tryz.prog 187 [(0, 1)] := ⟨_, Tryz.underlying187, fun w => by simp [Tryz.sizeOf36]⟩
instance : Fld Tryz.prog 188 0 0 := Fld.of (z := 0) (t := 185) Tryz.underlying188 rfl Tryz.sizeOf185
instance : Fld Tryz.prog 188 1 1 := Fld.of (z := 0) (t := 24) Tryz.underlying188 rfl Tryz.sizeOf24
instance : Places Tryz.prog 188 [(0, 1), (1, 1)] := ⟨_, Tryz.underlying188, fun w => by simp [Tryz.sizeOf185, Tryz.sizeOf24]⟩
instance : Fld Tryz.prog 189 0 0 := Fld.of (z := 0) (t := 185) Tryz.underlying189 rfl Tryz.sizeOf185
instance : Fld Tryz.prog 189 1 1 := Fld.of (z := 0) (t := 24) Tryz.underlying189 rfl Tryz.sizeOf24
instance : Places Tryz.prog 189 [(0, 1), (1, 1)] := ⟨_, Tryz.underlying189, fun w => by simp [Tryz.sizeOf185, Tryz.sizeOf24]⟩
instance : Fld Tryz.prog 213 0 0 := Fld.of (z := 0) (t := 17) Tryz.underlying213 rfl Tryz.sizeOf17
instance : Fld Tryz.prog 213 1 1 := Fld.of (z := 0) (t := 17) Tryz.underlying213 rfl Tryz.sizeOf17
instance : Fld Tryz.prog 213 2 2 := Fld.of (z := 0) (t := 17) Tryz.underlying213 rfl Tryz.sizeOf17
instance : Fld Tryz.prog 213 3 3 := Fld.of (z := 0) (t := 9) Tryz.underlying213 rfl Tryz.sizeOf9
instance : Places Tryz.prog 213 [(0, 1), (1, 1), (2, 1), (3, 1)] := ⟨_, Tryz.underlying213, fun w => by simp [Tryz.sizeOf17, Tryz.sizeOf9]⟩
instance : Fld Tryz.prog 214 0 0 := Fld.of (z := 0) (t := 17) Tryz.underlying214 rfl Tryz.sizeOf17
instance : Fld Tryz.prog 214 1 1 := Fld.of (z := 0) (t := 17) Tryz.underlying214 rfl Tryz.sizeOf17
instance : Fld Tryz.prog 214 2 2 := Fld.of (z := 0) (t := 17) Tryz.underlying214 rfl Tryz.sizeOf17
instance : Fld Tryz.prog 214 3 3 := Fld.of (z := 0) (t := 9) Tryz.underlying214 rfl Tryz.sizeOf9
instance : Places Tryz.prog 214 [(0, 1), (1, 1), (2, 1), (3, 1)] := ⟨_, Tryz.underlying214, fun w => by simp [Tryz.sizeOf17, Tryz.sizeOf9]⟩
instance : Places Tryz.prog 216 [(0, 0)] := ⟨_, Tryz.underlying216, fun w => by simp [Tryz.sizeOf215]⟩
instance : Places Tryz.prog 217 [(0, 0)] := ⟨_, Tryz.underlying217, fun w => by simp [Tryz.sizeOf215]⟩
instance : Fld Tryz.prog 224 0 0 := Fld.of (z := 0) (t := 12) Tryz.underlying224 rfl Tryz.sizeOf12
instance : Fld Tryz.prog 224 1 1 := Fld.of (z := 0) (t := 12) Tryz.underlying224 rfl Tryz.sizeOf12
instance : Fld Tryz.prog 224 2 2 := Fld.of (z := 0) (t := 140) Tryz.underlying224 rfl Tryz.sizeOf140
instance : Fld Tryz.prog 224 3 3 := Fld.of (z := 0) (t := 218) Tryz.underlying224 rfl Tryz.sizeOf218
instance : Fld Tryz.prog 224 4 4 := Fld.of (z := 0) (t := 5) Tryz.underlying224 rfl Tryz.sizeOf5
instance : Fld Tryz.prog 224 5 5 := Fld.of (z := 0) (t := 5) Tryz.underlying224 rfl Tryz.sizeOf5
instance : Fld Tryz.prog 224 6 6 := Fld.of (z := 0) (t := 219) Tryz.underlying224 rfl Tryz.sizeOf219
instance : Fld Tryz.prog 224 7 7 := Fld.of (z := 0) (t := 220) Tryz.underlying224 rfl Tryz.sizeOf220
instance : Fld Tryz.prog 224 8 8 := Fld.of (z := 0) (t := 221) Tryz.underlying224 rfl Tryz.sizeOf221
instance : Fld Tryz.prog 224 9 9 := Fld.of (z := 0) (t := 222) Tryz.underlying224 rfl Tryz.sizeOf222
instance : Fld Tryz.prog 224 10 10 := Fld.of (z := 0) (t := 223) Tryz.underlying224 rfl Tryz.sizeOf223
instance : Places Tryz.prog 224 [(0, 1), (1, 1), (2, 1), (3, 1), (4, 1), (5, 1), (6, 1), (7, 1), (8, 1), (9, 1), (10, 1)] := ⟨_, Tryz.underlying224, fun w => by simp [Tryz.sizeOf12, Tryz.sizeOf140, Tryz.sizeOf218, Tryz.sizeOf219, Tryz.sizeOf220, Tryz.sizeOf221, Tryz.sizeOf222, Tryz.sizeOf223, Tryz.sizeOf5]⟩
instance : Fld Tryz.prog 225 0 0 := Fld.of (z := 0) (t := 12) Tryz.underlying225 rfl Tryz.sizeOf12
instance : Fld Tryz.prog 225 1 1 := Fld.of (z := 0) (t := 12) Tryz.underlying225 rfl Tryz.sizeOf12
instance : Fld Tryz.prog 225 2 2 := Fld.of (z := 0) (t := 140) Tryz.underlying225 rfl Tryz.sizeOf140
instance : Fld Tryz.prog 225 3 3 := Fld.of (z := 0) (t := 218) Tryz.underlying225 rfl Tryz.sizeOf218
instance : Fld Tryz.prog 225 4 4 := Fld.of (z := 0) (t := 5) Tryz.underlying225 rfl Tryz.sizeOf5
instance : Fld Tryz.prog 225 5 5 := Fld.of (z := 0) (t := 5) Tryz.underlying225 rfl Tryz.sizeOf5
instance : Fld Tryz.prog 225 6 6 := Fld.of (z := 0) (t := 219) Tryz.underlying225 rfl Tryz.sizeOf219
instance : Fld Tryz.prog 225 7 7 := Fld.of (z := 0) (t := 220) Tryz.underlying225 rfl Tryz.sizeOf220
instance : Fld Tryz.prog 225 8 8 := Fld.of (z := 0) (t := 221) Tryz.underlying225 rfl Tryz.sizeOf221
instance : Fld Tryz.prog 225 9 9 := Fld.of (z := 0) (t := 222) Tryz.underlying225 rfl Tryz.sizeOf222
instance : Fld Tryz.prog 225 10 10 := Fld.of (z := 0) (t := 223) Tryz.underlying225 rfl Tryz.sizeOf223
instance : Places Tryz.prog 225 [(0, 1), (1, 1), (2, 1), (3, 1), (4, 1), (5, 1), (6, 1), (7, 1), (8, 1), (9, 1), (10, 1)] := ⟨_, Tryz.underlying225, fun w => by simp [Tryz.sizeOf12, Tryz.sizeOf140, Tryz.sizeOf218, Tryz.sizeOf219, Tryz.sizeOf220, Tryz.sizeOf221, Tryz.sizeOf222, Tryz.sizeOf223, Tryz.sizeOf5]⟩
instance : Elem Tryz.prog 22 39 13 136 (Go.Value.agg #[Go.Value.int Go.IntKind.i64 0, Go.Value.int Go.IntKind.i64 0, Go.Value.int Go.IntKind.i64 0, Go.Value.int Go.IntKind.i64 0, Go.Value.int Go.IntKind.i64 0, Go.Value.int Go.IntKind.i64 0, Go.Value.int Go.IntKind.i64 0, Go.Value.int Go.IntKind.i64 0, Go.Value.int Go.IntKind.i64 0, Go.Value.int Go.IntKind.i64 0, Go.Value.slice Option.none 0 0, Go.Value.int Go.IntKind.i64 0, Go.Value.slice Option.none 0 0]) := ⟨Tryz.underlying22, by kernel_rfl⟩
instance : Elem Tryz.prog 36 5 1 1 (Go.Value.int Go.IntKind.u8 0) := ⟨Tryz.underlying36, by kernel_rfl⟩
instance : Elem Tryz.prog 37 4 1 1 (Go.Value.bool Bool.false) := ⟨Tryz.underlying37, by kernel_rfl⟩
instance : Elem Tryz.prog 43 48 9 104 (Go.Value.agg #[Go.Value.int Go.IntKind.i64 0, Go.Value.slice Option.none 0 0, Go.Value.int Go.IntKind.i64 0, Go.Value.slice Option.none 0 0, Go.Value.int Go.IntKind.i64 0, Go.Value.int Go.IntKind.i64 0, Go.Value.int Go.IntKind.i64 0, Go.Value.int Go.IntKind.i64 0, Go.Value.bool Bool.false]) := ⟨Tryz.underlying43, by kernel_rfl⟩
instance : Elem Tryz.prog 59 36 1 24 (Go.Value.slice Option.none 0 0) := ⟨Tryz.underlying59, by kernel_rfl⟩
instance : Elem Tryz.prog 69 9 1 16 (Go.Value.string { data := #[] }) := ⟨Tryz.underlying69, by kernel_rfl⟩
instance : Elem Tryz.prog 101 2 1 8 (Go.Value.int Go.IntKind.i64 0) := ⟨Tryz.underlying101, by kernel_rfl⟩
instance : Elem Tryz.prog 102 118 2 32 (Go.Value.agg #[Go.Value.int Go.IntKind.i64 0, Go.Value.slice Option.none 0 0]) := ⟨Tryz.underlying102, by kernel_rfl⟩
instance : Elem Tryz.prog 107 111 5 56 (Go.Value.agg #[Go.Value.bool Bool.false, Go.Value.int Go.IntKind.i64 0, Go.Value.int Go.IntKind.i64 0, Go.Value.int Go.IntKind.i64 0, Go.Value.slice Option.none 0 0]) := ⟨Tryz.underlying107, by kernel_rfl⟩
instance : Elem Tryz.prog 133 3 1 8 (Go.Value.int Go.IntKind.i64 0) := ⟨Tryz.underlying133, by kernel_rfl⟩
end Go.Gsl
