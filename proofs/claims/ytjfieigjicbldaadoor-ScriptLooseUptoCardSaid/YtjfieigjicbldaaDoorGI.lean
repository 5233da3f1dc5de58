/- The loader's facts on this program's types and functions, as instances. Printed by tools/gen_inst.py. -/
import Derived.Test.YtjfieigjicbldaaDoorProg
import Derived.Test.YtjfieigjicbldaaDoorGA
namespace Go.Gsl
set_option linter.unusedVariables false
open Go.Proofs
instance : NonAgg Tryd.prog 0 := ⟨Tryd.isAgg0⟩
instance : SizeOf Tryd.prog 0 1 := ⟨Tryd.sizeOf0⟩
instance : Und Tryd.prog 0 (Go.TypeDesc.tuple #[]) := ⟨Tryd.underlying0⟩
instance : ZeroOf Tryd.prog 0 (Go.Value.tuple #[]) := ⟨Tryd.zeroValue0⟩
instance : NonAgg Tryd.prog 1 := ⟨Tryd.isAgg1⟩
instance : SizeOf Tryd.prog 1 1 := ⟨Tryd.sizeOf1⟩
instance : Und Tryd.prog 1 (Go.TypeDesc.func #[] #[] Bool.false) := ⟨Tryd.underlying1⟩
instance : ZeroOf Tryd.prog 1 (Go.Value.nilFunc) := ⟨Tryd.zeroValue1⟩
instance : Body Tryd.prog 2 := ⟨Tryd.call2⟩
instance : NonAgg Tryd.prog 2 := ⟨Tryd.isAgg2⟩
instance : SizeOf Tryd.prog 2 1 := ⟨Tryd.sizeOf2⟩
instance : Und Tryd.prog 2 (Go.TypeDesc.int Go.IntKind.i64) := ⟨Tryd.underlying2⟩
instance : ZeroOf Tryd.prog 2 (Go.Value.int Go.IntKind.i64 0) := ⟨Tryd.zeroValue2⟩
instance : Body Tryd.prog 3 := ⟨Tryd.call3⟩
instance : NonAgg Tryd.prog 3 := ⟨Tryd.isAgg3⟩
instance : SizeOf Tryd.prog 3 1 := ⟨Tryd.sizeOf3⟩
instance : Und Tryd.prog 3 (Go.TypeDesc.int Go.IntKind.i64) := ⟨Tryd.underlying3⟩
instance : ZeroOf Tryd.prog 3 (Go.Value.int Go.IntKind.i64 0) := ⟨Tryd.zeroValue3⟩
instance : Body Tryd.prog 4 := ⟨Tryd.call4⟩
instance : NonAgg Tryd.prog 4 := ⟨Tryd.isAgg4⟩
instance : SizeOf Tryd.prog 4 1 := ⟨Tryd.sizeOf4⟩
instance : Und Tryd.prog 4 (Go.TypeDesc.bool) := ⟨Tryd.underlying4⟩
instance : ZeroOf Tryd.prog 4 (Go.Value.bool Bool.false) := ⟨Tryd.zeroValue4⟩
instance : Body Tryd.prog 5 := ⟨Tryd.call5⟩
instance : NonAgg Tryd.prog 5 := ⟨Tryd.isAgg5⟩
instance : SizeOf Tryd.prog 5 1 := ⟨Tryd.sizeOf5⟩
instance : Und Tryd.prog 5 (Go.TypeDesc.int Go.IntKind.u8) := ⟨Tryd.underlying5⟩
instance : ZeroOf Tryd.prog 5 (Go.Value.int Go.IntKind.u8 0) := ⟨Tryd.zeroValue5⟩
instance : Body Tryd.prog 6 := ⟨Tryd.call6⟩
instance : NonAgg Tryd.prog 6 := ⟨Tryd.isAgg6⟩
instance : SizeOf Tryd.prog 6 1 := ⟨Tryd.sizeOf6⟩
instance : Und Tryd.prog 6 (Go.TypeDesc.int Go.IntKind.u8) := ⟨Tryd.underlying6⟩
instance : ZeroOf Tryd.prog 6 (Go.Value.int Go.IntKind.u8 0) := ⟨Tryd.zeroValue6⟩
instance : Body Tryd.prog 7 := ⟨Tryd.call7⟩
instance : IsAggT Tryd.prog 7 := ⟨Tryd.isAgg7⟩
instance : SizeOf Tryd.prog 7 4 := ⟨Tryd.sizeOf7⟩
instance : Und Tryd.prog 7 (Go.TypeDesc.struct #[{ name := "x", type := 2, offset := 0, embedded := Bool.false, tag := "", pkgPath := "runtime", byteOffset := 0 }, { name := "y", type := 3, offset := 1, embedded := Bool.false, tag := "", pkgPath := "runtime", byteOffset := 8 }, { name := "signed", type := 4, offset := 2, embedded := Bool.false, tag := "", pkgPath := "runtime", byteOffset := 16 }, { name := "code", type := 6, offset := 3, embedded := Bool.false, tag := "", pkgPath := "runtime", byteOffset := 17 }]) := ⟨Tryd.underlying7⟩
instance : ZeroOf Tryd.prog 7 (Go.Value.agg #[Go.Value.int Go.IntKind.i64 0, Go.Value.int Go.IntKind.i64 0, Go.Value.bool Bool.false, Go.Value.int Go.IntKind.u8 0]) := ⟨Tryd.zeroValue7⟩
instance : Body Tryd.prog 8 := ⟨Tryd.call8⟩
instance : IsAggT Tryd.prog 8 := ⟨Tryd.isAgg8⟩
instance : SizeOf Tryd.prog 8 4 := ⟨Tryd.sizeOf8⟩
instance : Und Tryd.prog 8 (Go.TypeDesc.struct #[{ name := "x", type := 2, offset := 0, embedded := Bool.false, tag := "", pkgPath := "runtime", byteOffset := 0 }, { name := "y", type := 3, offset := 1, embedded := Bool.false, tag := "", pkgPath := "runtime", byteOffset := 8 }, { name := "signed", type := 4, offset := 2, embedded := Bool.false, tag := "", pkgPath := "runtime", byteOffset := 16 }, { name := "code", type := 6, offset := 3, embedded := Bool.false, tag := "", pkgPath := "runtime", byteOffset := 17 }]) := ⟨Tryd.underlying8⟩
instance : ZeroOf Tryd.prog 8 (Go.Value.agg #[Go.Value.int Go.IntKind.i64 0, Go.Value.int Go.IntKind.i64 0, Go.Value.bool Bool.false, Go.Value.int Go.IntKind.u8 0]) := ⟨Tryd.zeroValue8⟩
instance : Body Tryd.prog 9 := ⟨Tryd.call9⟩
instance : NonAgg Tryd.prog 9 := ⟨Tryd.isAgg9⟩
instance : SizeOf Tryd.prog 9 1 := ⟨Tryd.sizeOf9⟩
instance : Und Tryd.prog 9 (Go.TypeDesc.string) := ⟨Tryd.underlying9⟩
instance : ZeroOf Tryd.prog 9 (Go.Value.string { data := #[] }) := ⟨Tryd.zeroValue9⟩
instance : Body Tryd.prog 10 := ⟨Tryd.call10⟩
instance : NonAgg Tryd.prog 10 := ⟨Tryd.isAgg10⟩
instance : SizeOf Tryd.prog 10 1 := ⟨Tryd.sizeOf10⟩
instance : Und Tryd.prog 10 (Go.TypeDesc.string) := ⟨Tryd.underlying10⟩
instance : ZeroOf Tryd.prog 10 (Go.Value.string { data := #[] }) := ⟨Tryd.zeroValue10⟩
instance : Body Tryd.prog 11 := ⟨Tryd.call11⟩
instance : NonAgg Tryd.prog 11 := ⟨Tryd.isAgg11⟩
instance : SizeOf Tryd.prog 11 1 := ⟨Tryd.sizeOf11⟩
instance : Und Tryd.prog 11 (Go.TypeDesc.string) := ⟨Tryd.underlying11⟩
instance : ZeroOf Tryd.prog 11 (Go.Value.string { data := #[] }) := ⟨Tryd.zeroValue11⟩
instance : Body Tryd.prog 12 := ⟨Tryd.call12⟩
instance : NonAgg Tryd.prog 12 := ⟨Tryd.isAgg12⟩
instance : SizeOf Tryd.prog 12 1 := ⟨Tryd.sizeOf12⟩
instance : Und Tryd.prog 12 (Go.TypeDesc.int Go.IntKind.u64) := ⟨Tryd.underlying12⟩
instance : ZeroOf Tryd.prog 12 (Go.Value.int Go.IntKind.u64 0) := ⟨Tryd.zeroValue12⟩
instance : Body Tryd.prog 13 := ⟨Tryd.call13⟩
instance : IsAggT Tryd.prog 13 := ⟨Tryd.isAgg13⟩
instance : SizeOf Tryd.prog 13 2 := ⟨Tryd.sizeOf13⟩
instance : Und Tryd.prog 13 (Go.TypeDesc.struct #[{ name := "msg", type := 9, offset := 0, embedded := Bool.false, tag := "", pkgPath := "runtime", byteOffset := 0 }, { name := "addr", type := 12, offset := 1, embedded := Bool.false, tag := "", pkgPath := "runtime", byteOffset := 16 }]) := ⟨Tryd.underlying13⟩
instance : ZeroOf Tryd.prog 13 (Go.Value.agg #[Go.Value.string { data := #[] }, Go.Value.int Go.IntKind.u64 0]) := ⟨Tryd.zeroValue13⟩
instance : Body Tryd.prog 14 := ⟨Tryd.call14⟩
instance : IsAggT Tryd.prog 14 := ⟨Tryd.isAgg14⟩
instance : SizeOf Tryd.prog 14 2 := ⟨Tryd.sizeOf14⟩
instance : Und Tryd.prog 14 (Go.TypeDesc.struct #[{ name := "msg", type := 9, offset := 0, embedded := Bool.false, tag := "", pkgPath := "runtime", byteOffset := 0 }, { name := "addr", type := 12, offset := 1, embedded := Bool.false, tag := "", pkgPath := "runtime", byteOffset := 16 }]) := ⟨Tryd.underlying14⟩
instance : ZeroOf Tryd.prog 14 (Go.Value.agg #[Go.Value.string { data := #[] }, Go.Value.int Go.IntKind.u64 0]) := ⟨Tryd.zeroValue14⟩
instance : Body Tryd.prog 15 := ⟨Tryd.call15⟩
instance : NonAgg Tryd.prog 15 := ⟨Tryd.isAgg15⟩
instance : SizeOf Tryd.prog 15 1 := ⟨Tryd.sizeOf15⟩
instance : Und Tryd.prog 15 (Go.TypeDesc.pointer 172) := ⟨Tryd.underlying15⟩
instance : ZeroOf Tryd.prog 15 (Go.Value.pointer Option.none) := ⟨Tryd.zeroValue15⟩
instance : Body Tryd.prog 16 := ⟨Tryd.call16⟩
instance : NonAgg Tryd.prog 16 := ⟨Tryd.isAgg16⟩
instance : SizeOf Tryd.prog 16 1 := ⟨Tryd.sizeOf16⟩
instance : Und Tryd.prog 16 (Go.TypeDesc.pointer 175) := ⟨Tryd.underlying16⟩
instance : ZeroOf Tryd.prog 16 (Go.Value.pointer Option.none) := ⟨Tryd.zeroValue16⟩
instance : Body Tryd.prog 17 := ⟨Tryd.call17⟩
instance : NonAgg Tryd.prog 17 := ⟨Tryd.isAgg17⟩
instance : SizeOf Tryd.prog 17 1 := ⟨Tryd.sizeOf17⟩
instance : Und Tryd.prog 17 (Go.TypeDesc.pointer 183) := ⟨Tryd.underlying17⟩
instance : ZeroOf Tryd.prog 17 (Go.Value.pointer Option.none) := ⟨Tryd.zeroValue17⟩
instance : Body Tryd.prog 18 := ⟨Tryd.call18⟩
instance : IsAggT Tryd.prog 18 := ⟨Tryd.isAgg18⟩
instance : SizeOf Tryd.prog 18 1 := ⟨Tryd.sizeOf18⟩
instance : Und Tryd.prog 18 (Go.TypeDesc.struct #[{ name := "typ", type := 17, offset := 0, embedded := Bool.false, tag := "", pkgPath := "internal/runtime/maps", byteOffset := 0 }]) := ⟨Tryd.underlying18⟩
instance : ZeroOf Tryd.prog 18 (Go.Value.agg #[Go.Value.pointer Option.none]) := ⟨Tryd.zeroValue18⟩
instance : Body Tryd.prog 19 := ⟨Tryd.call19⟩
instance : IsAggT Tryd.prog 19 := ⟨Tryd.isAgg19⟩
instance : SizeOf Tryd.prog 19 1 := ⟨Tryd.sizeOf19⟩
instance : Und Tryd.prog 19 (Go.TypeDesc.struct #[{ name := "typ", type := 17, offset := 0, embedded := Bool.false, tag := "", pkgPath := "internal/runtime/maps", byteOffset := 0 }]) := ⟨Tryd.underlying19⟩
instance : ZeroOf Tryd.prog 19 (Go.Value.agg #[Go.Value.pointer Option.none]) := ⟨Tryd.zeroValue19⟩
instance : Body Tryd.prog 20 := ⟨Tryd.call20⟩
instance : NonAgg Tryd.prog 20 := ⟨Tryd.isAgg20⟩
instance : SizeOf Tryd.prog 20 1 := ⟨Tryd.sizeOf20⟩
instance : Und Tryd.prog 20 (Go.TypeDesc.interface #[]) := ⟨Tryd.underlying20⟩
instance : ZeroOf Tryd.prog 20 (Go.Value.nilIface) := ⟨Tryd.zeroValue20⟩
instance : Body Tryd.prog 21 := ⟨Tryd.call21⟩
instance : NonAgg Tryd.prog 21 := ⟨Tryd.isAgg21⟩
instance : SizeOf Tryd.prog 21 1 := ⟨Tryd.sizeOf21⟩
instance : Und Tryd.prog 21 (Go.TypeDesc.int Go.IntKind.i32) := ⟨Tryd.underlying21⟩
instance : ZeroOf Tryd.prog 21 (Go.Value.int Go.IntKind.i32 0) := ⟨Tryd.zeroValue21⟩
instance : Body Tryd.prog 22 := ⟨Tryd.call22⟩
instance : IsAggT Tryd.prog 22 := ⟨Tryd.isAgg22⟩
instance : SizeOf Tryd.prog 22 7 := ⟨Tryd.sizeOf22⟩
instance : Und Tryd.prog 22 (Go.TypeDesc.struct #[{ name := "Sectors", type := 3, offset := 0, embedded := Bool.false, tag := "", pkgPath := "", byteOffset := 0 }, { name := "Log", type := 3, offset := 1, embedded := Bool.false, tag := "", pkgPath := "", byteOffset := 8 }, { name := "Chunks", type := 3, offset := 2, embedded := Bool.false, tag := "", pkgPath := "", byteOffset := 16 }, { name := "Nodes", type := 3, offset := 3, embedded := Bool.false, tag := "", pkgPath := "", byteOffset := 24 }, { name := "Pages", type := 3, offset := 4, embedded := Bool.false, tag := "", pkgPath := "", byteOffset := 32 }, { name := "Cells", type := 3, offset := 5, embedded := Bool.false, tag := "", pkgPath := "", byteOffset := 40 }, { name := "Versions", type := 3, offset := 6, embedded := Bool.false, tag := "", pkgPath := "", byteOffset := 48 }]) := ⟨Tryd.underlying22⟩
instance : ZeroOf Tryd.prog 22 (Go.Value.agg #[Go.Value.int Go.IntKind.i64 0, Go.Value.int Go.IntKind.i64 0, Go.Value.int Go.IntKind.i64 0, Go.Value.int Go.IntKind.i64 0, Go.Value.int Go.IntKind.i64 0, Go.Value.int Go.IntKind.i64 0, Go.Value.int Go.IntKind.i64 0]) := ⟨Tryd.zeroValue22⟩
instance : Body Tryd.prog 23 := ⟨Tryd.call23⟩
instance : IsAggT Tryd.prog 23 := ⟨Tryd.isAgg23⟩
instance : SizeOf Tryd.prog 23 7 := ⟨Tryd.sizeOf23⟩
instance : Und Tryd.prog 23 (Go.TypeDesc.struct #[{ name := "Sectors", type := 3, offset := 0, embedded := Bool.false, tag := "", pkgPath := "", byteOffset := 0 }, { name := "Log", type := 3, offset := 1, embedded := Bool.false, tag := "", pkgPath := "", byteOffset := 8 }, { name := "Chunks", type := 3, offset := 2, embedded := Bool.false, tag := "", pkgPath := "", byteOffset := 16 }, { name := "Nodes", type := 3, offset := 3, embedded := Bool.false, tag := "", pkgPath := "", byteOffset := 24 }, { name := "Pages", type := 3, offset := 4, embedded := Bool.false, tag := "", pkgPath := "", byteOffset := 32 }, { name := "Cells", type := 3, offset := 5, embedded := Bool.false, tag := "", pkgPath := "", byteOffset := 40 }, { name := "Versions", type := 3, offset := 6, embedded := Bool.false, tag := "", pkgPath := "", byteOffset := 48 }]) := ⟨Tryd.underlying23⟩
instance : ZeroOf Tryd.prog 23 (Go.Value.agg #[Go.Value.int Go.IntKind.i64 0, Go.Value.int Go.IntKind.i64 0, Go.Value.int Go.IntKind.i64 0, Go.Value.int Go.IntKind.i64 0, Go.Value.int Go.IntKind.i64 0, Go.Value.int Go.IntKind.i64 0, Go.Value.int Go.IntKind.i64 0]) := ⟨Tryd.zeroValue23⟩
instance : Body Tryd.prog 24 := ⟨Tryd.call24⟩
instance : NonAgg Tryd.prog 24 := ⟨Tryd.isAgg24⟩
instance : SizeOf Tryd.prog 24 1 := ⟨Tryd.sizeOf24⟩
instance : Und Tryd.prog 24 (Go.TypeDesc.slice 46) := ⟨Tryd.underlying24⟩
instance : ZeroOf Tryd.prog 24 (Go.Value.slice Option.none 0 0) := ⟨Tryd.zeroValue24⟩
instance : Body Tryd.prog 25 := ⟨Tryd.call25⟩
instance : IsAggT Tryd.prog 25 := ⟨Tryd.isAgg25⟩
instance : SizeOf Tryd.prog 25 8 := ⟨Tryd.sizeOf25⟩
instance : Und Tryd.prog 25 (Go.TypeDesc.struct #[{ name := "Config", type := 23, offset := 0, embedded := Bool.false, tag := "", pkgPath := "", byteOffset := 0 }, { name := "Acts", type := 24, offset := 7, embedded := Bool.false, tag := "", pkgPath := "", byteOffset := 56 }]) := ⟨Tryd.underlying25⟩
instance : ZeroOf Tryd.prog 25 (Go.Value.agg #[Go.Value.int Go.IntKind.i64 0, Go.Value.int Go.IntKind.i64 0, Go.Value.int Go.IntKind.i64 0, Go.Value.int Go.IntKind.i64 0, Go.Value.int Go.IntKind.i64 0, Go.Value.int Go.IntKind.i64 0, Go.Value.int Go.IntKind.i64 0, Go.Value.slice Option.none 0 0]) := ⟨Tryd.zeroValue25⟩
instance : Body Tryd.prog 26 := ⟨Tryd.call26⟩
instance : IsAggT Tryd.prog 26 := ⟨Tryd.isAgg26⟩
instance : SizeOf Tryd.prog 26 8 := ⟨Tryd.sizeOf26⟩
instance : Und Tryd.prog 26 (Go.TypeDesc.struct #[{ name := "Config", type := 23, offset := 0, embedded := Bool.false, tag := "", pkgPath := "", byteOffset := 0 }, { name := "Acts", type := 24, offset := 7, embedded := Bool.false, tag := "", pkgPath := "", byteOffset := 56 }]) := ⟨Tryd.underlying26⟩
instance : ZeroOf Tryd.prog 26 (Go.Value.agg #[Go.Value.int Go.IntKind.i64 0, Go.Value.int Go.IntKind.i64 0, Go.Value.int Go.IntKind.i64 0, Go.Value.int Go.IntKind.i64 0, Go.Value.int Go.IntKind.i64 0, Go.Value.int Go.IntKind.i64 0, Go.Value.int Go.IntKind.i64 0, Go.Value.slice Option.none 0 0]) := ⟨Tryd.zeroValue26⟩
instance : Body Tryd.prog 27 := ⟨Tryd.call27⟩
instance : NonAgg Tryd.prog 27 := ⟨Tryd.isAgg27⟩
instance : SizeOf Tryd.prog 27 1 := ⟨Tryd.sizeOf27⟩
instance : Und Tryd.prog 27 (Go.TypeDesc.int Go.IntKind.i64) := ⟨Tryd.underlying27⟩
instance : ZeroOf Tryd.prog 27 (Go.Value.int Go.IntKind.i64 0) := ⟨Tryd.zeroValue27⟩
instance : Body Tryd.prog 28 := ⟨Tryd.call28⟩
instance : NonAgg Tryd.prog 28 := ⟨Tryd.isAgg28⟩
instance : SizeOf Tryd.prog 28 1 := ⟨Tryd.sizeOf28⟩
instance : Und Tryd.prog 28 (Go.TypeDesc.tuple #[26, 3, 27]) := ⟨Tryd.underlying28⟩
instance : ZeroOf Tryd.prog 28 (Go.Value.tuple #[Go.Value.agg #[Go.Value.int Go.IntKind.i64 0, Go.Value.int Go.IntKind.i64 0, Go.Value.int Go.IntKind.i64 0, Go.Value.int Go.IntKind.i64 0, Go.Value.int Go.IntKind.i64 0, Go.Value.int Go.IntKind.i64 0, Go.Value.int Go.IntKind.i64 0, Go.Value.slice Option.none 0 0], Go.Value.int Go.IntKind.i64 0, Go.Value.int Go.IntKind.i64 0]) := ⟨Tryd.zeroValue28⟩
instance : Body Tryd.prog 29 := ⟨Tryd.call29⟩
instance : NonAgg Tryd.prog 29 := ⟨Tryd.isAgg29⟩
instance : SizeOf Tryd.prog 29 1 := ⟨Tryd.sizeOf29⟩
instance : Und Tryd.prog 29 (Go.TypeDesc.func #[9] #[26, 3, 27] Bool.false) := ⟨Tryd.underlying29⟩
instance : ZeroOf Tryd.prog 29 (Go.Value.nilFunc) := ⟨Tryd.zeroValue29⟩
instance : Body Tryd.prog 30 := ⟨Tryd.call30⟩
instance : NonAgg Tryd.prog 30 := ⟨Tryd.isAgg30⟩
instance : SizeOf Tryd.prog 30 1 := ⟨Tryd.sizeOf30⟩
instance : Und Tryd.prog 30 (Go.TypeDesc.func #[] #[4] Bool.false) := ⟨Tryd.underlying30⟩
instance : ZeroOf Tryd.prog 30 (Go.Value.nilFunc) := ⟨Tryd.zeroValue30⟩
instance : Body Tryd.prog 31 := ⟨Tryd.call31⟩
instance : NonAgg Tryd.prog 31 := ⟨Tryd.isAgg31⟩
instance : SizeOf Tryd.prog 31 1 := ⟨Tryd.sizeOf31⟩
instance : Und Tryd.prog 31 (Go.TypeDesc.func #[26, 26] #[4] Bool.false) := ⟨Tryd.underlying31⟩
instance : ZeroOf Tryd.prog 31 (Go.Value.nilFunc) := ⟨Tryd.zeroValue31⟩
instance : Body Tryd.prog 32 := ⟨Tryd.call32⟩
instance : NonAgg Tryd.prog 32 := ⟨Tryd.isAgg32⟩
instance : SizeOf Tryd.prog 32 1 := ⟨Tryd.sizeOf32⟩
instance : Und Tryd.prog 32 (Go.TypeDesc.func #[9] #[4] Bool.false) := ⟨Tryd.underlying32⟩
instance : ZeroOf Tryd.prog 32 (Go.Value.nilFunc) := ⟨Tryd.zeroValue32⟩
instance : Body Tryd.prog 33 := ⟨Tryd.call33⟩
instance : NonAgg Tryd.prog 33 := ⟨Tryd.isAgg33⟩
instance : SizeOf Tryd.prog 33 1 := ⟨Tryd.sizeOf33⟩
instance : Und Tryd.prog 33 (Go.TypeDesc.slice 9) := ⟨Tryd.underlying33⟩
instance : ZeroOf Tryd.prog 33 (Go.Value.slice Option.none 0 0) := ⟨Tryd.zeroValue33⟩
instance : Body Tryd.prog 34 := ⟨Tryd.call34⟩
instance : NonAgg Tryd.prog 34 := ⟨Tryd.isAgg34⟩
instance : SizeOf Tryd.prog 34 1 := ⟨Tryd.sizeOf34⟩
instance : Und Tryd.prog 34 (Go.TypeDesc.func #[9] #[9] Bool.false) := ⟨Tryd.underlying34⟩
instance : ZeroOf Tryd.prog 34 (Go.Value.nilFunc) := ⟨Tryd.zeroValue34⟩
instance : Body Tryd.prog 35 := ⟨Tryd.call35⟩
instance : NonAgg Tryd.prog 35 := ⟨Tryd.isAgg35⟩
instance : SizeOf Tryd.prog 35 1 := ⟨Tryd.sizeOf35⟩
instance : Und Tryd.prog 35 (Go.TypeDesc.func #[33] #[9] Bool.true) := ⟨Tryd.underlying35⟩
instance : ZeroOf Tryd.prog 35 (Go.Value.nilFunc) := ⟨Tryd.zeroValue35⟩
instance : Body Tryd.prog 36 := ⟨Tryd.call36⟩
instance : NonAgg Tryd.prog 36 := ⟨Tryd.isAgg36⟩
instance : SizeOf Tryd.prog 36 1 := ⟨Tryd.sizeOf36⟩
instance : Und Tryd.prog 36 (Go.TypeDesc.func #[33, 9] #[9] Bool.false) := ⟨Tryd.underlying36⟩
instance : ZeroOf Tryd.prog 36 (Go.Value.nilFunc) := ⟨Tryd.zeroValue36⟩
instance : Body Tryd.prog 37 := ⟨Tryd.call37⟩
instance : NonAgg Tryd.prog 37 := ⟨Tryd.isAgg37⟩
instance : SizeOf Tryd.prog 37 1 := ⟨Tryd.sizeOf37⟩
instance : Und Tryd.prog 37 (Go.TypeDesc.func #[33] #[4] Bool.false) := ⟨Tryd.underlying37⟩
instance : ZeroOf Tryd.prog 37 (Go.Value.nilFunc) := ⟨Tryd.zeroValue37⟩
instance : Body Tryd.prog 38 := ⟨Tryd.call38⟩
instance : NonAgg Tryd.prog 38 := ⟨Tryd.isAgg38⟩
instance : SizeOf Tryd.prog 38 1 := ⟨Tryd.sizeOf38⟩
instance : Und Tryd.prog 38 (Go.TypeDesc.slice 4) := ⟨Tryd.underlying38⟩
instance : ZeroOf Tryd.prog 38 (Go.Value.slice Option.none 0 0) := ⟨Tryd.zeroValue38⟩
instance : Body Tryd.prog 39 := ⟨Tryd.call39⟩
instance : NonAgg Tryd.prog 39 := ⟨Tryd.isAgg39⟩
instance : SizeOf Tryd.prog 39 1 := ⟨Tryd.sizeOf39⟩
instance : Und Tryd.prog 39 (Go.TypeDesc.func #[9, 9] #[33] Bool.false) := ⟨Tryd.underlying39⟩
instance : ZeroOf Tryd.prog 39 (Go.Value.nilFunc) := ⟨Tryd.zeroValue39⟩
instance : Body Tryd.prog 40 := ⟨Tryd.call40⟩
instance : NonAgg Tryd.prog 40 := ⟨Tryd.isAgg40⟩
instance : SizeOf Tryd.prog 40 1 := ⟨Tryd.sizeOf40⟩
instance : Und Tryd.prog 40 (Go.TypeDesc.func #[9, 38] #[4] Bool.false) := ⟨Tryd.underlying40⟩
instance : ZeroOf Tryd.prog 40 (Go.Value.nilFunc) := ⟨Tryd.zeroValue40⟩
instance : Body Tryd.prog 41 := ⟨Tryd.call41⟩
instance : IsAggT Tryd.prog 41 := ⟨Tryd.isAgg41⟩
instance : SizeOf Tryd.prog 41 2 := ⟨Tryd.sizeOf41⟩
instance : Und Tryd.prog 41 (Go.TypeDesc.struct #[{ name := "Low", type := 9, offset := 0, embedded := Bool.false, tag := "", pkgPath := "", byteOffset := 0 }, { name := "High", type := 9, offset := 1, embedded := Bool.false, tag := "", pkgPath := "", byteOffset := 16 }]) := ⟨Tryd.underlying41⟩
instance : ZeroOf Tryd.prog 41 (Go.Value.agg #[Go.Value.string { data := #[] }, Go.Value.string { data := #[] }]) := ⟨Tryd.zeroValue41⟩
instance : Body Tryd.prog 42 := ⟨Tryd.call42⟩
instance : IsAggT Tryd.prog 42 := ⟨Tryd.isAgg42⟩
instance : SizeOf Tryd.prog 42 2 := ⟨Tryd.sizeOf42⟩
instance : Und Tryd.prog 42 (Go.TypeDesc.struct #[{ name := "Low", type := 9, offset := 0, embedded := Bool.false, tag := "", pkgPath := "", byteOffset := 0 }, { name := "High", type := 9, offset := 1, embedded := Bool.false, tag := "", pkgPath := "", byteOffset := 16 }]) := ⟨Tryd.underlying42⟩
instance : ZeroOf Tryd.prog 42 (Go.Value.agg #[Go.Value.string { data := #[] }, Go.Value.string { data := #[] }]) := ⟨Tryd.zeroValue42⟩
instance : Body Tryd.prog 43 := ⟨Tryd.call43⟩
instance : IsAggT Tryd.prog 43 := ⟨Tryd.isAgg43⟩
instance : SizeOf Tryd.prog 43 6 := ⟨Tryd.sizeOf43⟩
instance : Und Tryd.prog 43 (Go.TypeDesc.struct #[{ name := "Kind", type := 3, offset := 0, embedded := Bool.false, tag := "", pkgPath := "", byteOffset := 0 }, { name := "Level", type := 3, offset := 1, embedded := Bool.false, tag := "", pkgPath := "", byteOffset := 8 }, { name := "Key", type := 9, offset := 2, embedded := Bool.false, tag := "", pkgPath := "", byteOffset := 16 }, { name := "Value", type := 9, offset := 3, embedded := Bool.false, tag := "", pkgPath := "", byteOffset := 32 }, { name := "Range", type := 42, offset := 4, embedded := Bool.false, tag := "", pkgPath := "", byteOffset := 48 }]) := ⟨Tryd.underlying43⟩
instance : ZeroOf Tryd.prog 43 (Go.Value.agg #[Go.Value.int Go.IntKind.i64 0, Go.Value.int Go.IntKind.i64 0, Go.Value.string { data := #[] }, Go.Value.string { data := #[] }, Go.Value.string { data := #[] }, Go.Value.string { data := #[] }]) := ⟨Tryd.zeroValue43⟩
instance : Body Tryd.prog 44 := ⟨Tryd.call44⟩
instance : IsAggT Tryd.prog 44 := ⟨Tryd.isAgg44⟩
instance : SizeOf Tryd.prog 44 6 := ⟨Tryd.sizeOf44⟩
instance : Und Tryd.prog 44 (Go.TypeDesc.struct #[{ name := "Kind", type := 3, offset := 0, embedded := Bool.false, tag := "", pkgPath := "", byteOffset := 0 }, { name := "Level", type := 3, offset := 1, embedded := Bool.false, tag := "", pkgPath := "", byteOffset := 8 }, { name := "Key", type := 9, offset := 2, embedded := Bool.false, tag := "", pkgPath := "", byteOffset := 16 }, { name := "Value", type := 9, offset := 3, embedded := Bool.false, tag := "", pkgPath := "", byteOffset := 32 }, { name := "Range", type := 42, offset := 4, embedded := Bool.false, tag := "", pkgPath := "", byteOffset := 48 }]) := ⟨Tryd.underlying44⟩
instance : ZeroOf Tryd.prog 44 (Go.Value.agg #[Go.Value.int Go.IntKind.i64 0, Go.Value.int Go.IntKind.i64 0, Go.Value.string { data := #[] }, Go.Value.string { data := #[] }, Go.Value.string { data := #[] }, Go.Value.string { data := #[] }]) := ⟨Tryd.zeroValue44⟩
instance : Body Tryd.prog 45 := ⟨Tryd.call45⟩
instance : IsAggT Tryd.prog 45 := ⟨Tryd.isAgg45⟩
instance : SizeOf Tryd.prog 45 9 := ⟨Tryd.sizeOf45⟩
instance : Und Tryd.prog 45 (Go.TypeDesc.struct #[{ name := "Do", type := 3, offset := 0, embedded := Bool.false, tag := "", pkgPath := "", byteOffset := 0 }, { name := "N", type := 3, offset := 1, embedded := Bool.false, tag := "", pkgPath := "", byteOffset := 8 }, { name := "Call", type := 44, offset := 2, embedded := Bool.false, tag := "", pkgPath := "", byteOffset := 16 }, { name := "Keep", type := 38, offset := 8, embedded := Bool.false, tag := "", pkgPath := "", byteOffset := 96 }]) := ⟨Tryd.underlying45⟩
instance : ZeroOf Tryd.prog 45 (Go.Value.agg #[Go.Value.int Go.IntKind.i64 0, Go.Value.int Go.IntKind.i64 0, Go.Value.int Go.IntKind.i64 0, Go.Value.int Go.IntKind.i64 0, Go.Value.string { data := #[] }, Go.Value.string { data := #[] }, Go.Value.string { data := #[] }, Go.Value.string { data := #[] }, Go.Value.slice Option.none 0 0]) := ⟨Tryd.zeroValue45⟩
instance : Body Tryd.prog 46 := ⟨Tryd.call46⟩
instance : IsAggT Tryd.prog 46 := ⟨Tryd.isAgg46⟩
instance : SizeOf Tryd.prog 46 9 := ⟨Tryd.sizeOf46⟩
instance : Und Tryd.prog 46 (Go.TypeDesc.struct #[{ name := "Do", type := 3, offset := 0, embedded := Bool.false, tag := "", pkgPath := "", byteOffset := 0 }, { name := "N", type := 3, offset := 1, embedded := Bool.false, tag := "", pkgPath := "", byteOffset := 8 }, { name := "Call", type := 44, offset := 2, embedded := Bool.false, tag := "", pkgPath := "", byteOffset := 16 }, { name := "Keep", type := 38, offset := 8, embedded := Bool.false, tag := "", pkgPath := "", byteOffset := 96 }]) := ⟨Tryd.underlying46⟩
instance : ZeroOf Tryd.prog 46 (Go.Value.agg #[Go.Value.int Go.IntKind.i64 0, Go.Value.int Go.IntKind.i64 0, Go.Value.int Go.IntKind.i64 0, Go.Value.int Go.IntKind.i64 0, Go.Value.string { data := #[] }, Go.Value.string { data := #[] }, Go.Value.string { data := #[] }, Go.Value.string { data := #[] }, Go.Value.slice Option.none 0 0]) := ⟨Tryd.zeroValue46⟩
instance : Body Tryd.prog 47 := ⟨Tryd.call47⟩
instance : NonAgg Tryd.prog 47 := ⟨Tryd.isAgg47⟩
instance : SizeOf Tryd.prog 47 1 := ⟨Tryd.sizeOf47⟩
instance : Und Tryd.prog 47 (Go.TypeDesc.tuple #[9, 27]) := ⟨Tryd.underlying47⟩
instance : ZeroOf Tryd.prog 47 (Go.Value.tuple #[Go.Value.string { data := #[] }, Go.Value.int Go.IntKind.i64 0]) := ⟨Tryd.zeroValue47⟩
instance : Body Tryd.prog 48 := ⟨Tryd.call48⟩
instance : NonAgg Tryd.prog 48 := ⟨Tryd.isAgg48⟩
instance : SizeOf Tryd.prog 48 1 := ⟨Tryd.sizeOf48⟩
instance : Und Tryd.prog 48 (Go.TypeDesc.func #[46] #[9, 27] Bool.false) := ⟨Tryd.underlying48⟩
instance : ZeroOf Tryd.prog 48 (Go.Value.nilFunc) := ⟨Tryd.zeroValue48⟩
instance : Body Tryd.prog 49 := ⟨Tryd.call49⟩
instance : NonAgg Tryd.prog 49 := ⟨Tryd.isAgg49⟩
instance : SizeOf Tryd.prog 49 1 := ⟨Tryd.sizeOf49⟩
instance : Und Tryd.prog 49 (Go.TypeDesc.func #[46, 46] #[4] Bool.false) := ⟨Tryd.underlying49⟩
instance : ZeroOf Tryd.prog 49 (Go.Value.nilFunc) := ⟨Tryd.zeroValue49⟩
instance : Body Tryd.prog 50 := ⟨Tryd.call50⟩
instance : NonAgg Tryd.prog 50 := ⟨Tryd.isAgg50⟩
instance : SizeOf Tryd.prog 50 1 := ⟨Tryd.sizeOf50⟩
instance : Und Tryd.prog 50 (Go.TypeDesc.func #[26] #[9, 27] Bool.false) := ⟨Tryd.underlying50⟩
instance : ZeroOf Tryd.prog 50 (Go.Value.nilFunc) := ⟨Tryd.zeroValue50⟩
instance : Body Tryd.prog 51 := ⟨Tryd.call51⟩
instance : NonAgg Tryd.prog 51 := ⟨Tryd.isAgg51⟩
instance : SizeOf Tryd.prog 51 1 := ⟨Tryd.sizeOf51⟩
instance : Und Tryd.prog 51 (Go.TypeDesc.func #[26, 9] #[4] Bool.false) := ⟨Tryd.underlying51⟩
instance : ZeroOf Tryd.prog 51 (Go.Value.nilFunc) := ⟨Tryd.zeroValue51⟩
instance : Body Tryd.prog 52 := ⟨Tryd.call52⟩
instance : NonAgg Tryd.prog 52 := ⟨Tryd.isAgg52⟩
instance : SizeOf Tryd.prog 52 1 := ⟨Tryd.sizeOf52⟩
instance : Und Tryd.prog 52 (Go.TypeDesc.tuple #[27, 4]) := ⟨Tryd.underlying52⟩
instance : ZeroOf Tryd.prog 52 (Go.Value.tuple #[Go.Value.int Go.IntKind.i64 0, Go.Value.bool Bool.false]) := ⟨Tryd.zeroValue52⟩
instance : Body Tryd.prog 53 := ⟨Tryd.call53⟩
instance : NonAgg Tryd.prog 53 := ⟨Tryd.isAgg53⟩
instance : SizeOf Tryd.prog 53 1 := ⟨Tryd.sizeOf53⟩
instance : Und Tryd.prog 53 (Go.TypeDesc.pointer 55) := ⟨Tryd.underlying53⟩
instance : ZeroOf Tryd.prog 53 (Go.Value.pointer Option.none) := ⟨Tryd.zeroValue53⟩
instance : Body Tryd.prog 54 := ⟨Tryd.call54⟩
instance : IsAggT Tryd.prog 54 := ⟨Tryd.isAgg54⟩
instance : SizeOf Tryd.prog 54 9 := ⟨Tryd.sizeOf54⟩
instance : Und Tryd.prog 54 (Go.TypeDesc.struct #[{ name := "s", type := 26, offset := 0, embedded := Bool.false, tag := "", pkgPath := "cresset/script", byteOffset := 0 }, { name := "begun", type := 4, offset := 8, embedded := Bool.false, tag := "", pkgPath := "cresset/script", byteOffset := 80 }]) := ⟨Tryd.underlying54⟩
instance : ZeroOf Tryd.prog 54 (Go.Value.agg #[Go.Value.int Go.IntKind.i64 0, Go.Value.int Go.IntKind.i64 0, Go.Value.int Go.IntKind.i64 0, Go.Value.int Go.IntKind.i64 0, Go.Value.int Go.IntKind.i64 0, Go.Value.int Go.IntKind.i64 0, Go.Value.int Go.IntKind.i64 0, Go.Value.slice Option.none 0 0, Go.Value.bool Bool.false]) := ⟨Tryd.zeroValue54⟩
instance : Body Tryd.prog 55 := ⟨Tryd.call55⟩
instance : IsAggT Tryd.prog 55 := ⟨Tryd.isAgg55⟩
instance : SizeOf Tryd.prog 55 9 := ⟨Tryd.sizeOf55⟩
instance : Und Tryd.prog 55 (Go.TypeDesc.struct #[{ name := "s", type := 26, offset := 0, embedded := Bool.false, tag := "", pkgPath := "cresset/script", byteOffset := 0 }, { name := "begun", type := 4, offset := 8, embedded := Bool.false, tag := "", pkgPath := "cresset/script", byteOffset := 80 }]) := ⟨Tryd.underlying55⟩
instance : ZeroOf Tryd.prog 55 (Go.Value.agg #[Go.Value.int Go.IntKind.i64 0, Go.Value.int Go.IntKind.i64 0, Go.Value.int Go.IntKind.i64 0, Go.Value.int Go.IntKind.i64 0, Go.Value.int Go.IntKind.i64 0, Go.Value.int Go.IntKind.i64 0, Go.Value.int Go.IntKind.i64 0, Go.Value.slice Option.none 0 0, Go.Value.bool Bool.false]) := ⟨Tryd.zeroValue55⟩
instance : Body Tryd.prog 56 := ⟨Tryd.call56⟩
instance : NonAgg Tryd.prog 56 := ⟨Tryd.isAgg56⟩
instance : SizeOf Tryd.prog 56 1 := ⟨Tryd.sizeOf56⟩
instance : Und Tryd.prog 56 (Go.TypeDesc.tuple #[9, 9, 4]) := ⟨Tryd.underlying56⟩
instance : ZeroOf Tryd.prog 56 (Go.Value.tuple #[Go.Value.string { data := #[] }, Go.Value.string { data := #[] }, Go.Value.bool Bool.false]) := ⟨Tryd.zeroValue56⟩
instance : Body Tryd.prog 57 := ⟨Tryd.call57⟩
instance : NonAgg Tryd.prog 57 := ⟨Tryd.isAgg57⟩
instance : SizeOf Tryd.prog 57 1 := ⟨Tryd.sizeOf57⟩
instance : Und Tryd.prog 57 (Go.TypeDesc.func #[9, 9] #[9, 9, 4] Bool.false) := ⟨Tryd.underlying57⟩
instance : ZeroOf Tryd.prog 57 (Go.Value.nilFunc) := ⟨Tryd.zeroValue57⟩
instance : Body Tryd.prog 58 := ⟨Tryd.call58⟩
instance : NonAgg Tryd.prog 58 := ⟨Tryd.isAgg58⟩
instance : SizeOf Tryd.prog 58 1 := ⟨Tryd.sizeOf58⟩
instance : Und Tryd.prog 58 (Go.TypeDesc.func #[9] #[] Bool.false) := ⟨Tryd.underlying58⟩
instance : ZeroOf Tryd.prog 58 (Go.Value.nilFunc) := ⟨Tryd.zeroValue58⟩
instance : Body Tryd.prog 59 := ⟨Tryd.call59⟩
instance : NonAgg Tryd.prog 59 := ⟨Tryd.isAgg59⟩
instance : SizeOf Tryd.prog 59 1 := ⟨Tryd.sizeOf59⟩
instance : Und Tryd.prog 59 (Go.TypeDesc.slice 63) := ⟨Tryd.underlying59⟩
instance : ZeroOf Tryd.prog 59 (Go.Value.slice Option.none 0 0) := ⟨Tryd.zeroValue59⟩
instance : Body Tryd.prog 60 := ⟨Tryd.call60⟩
instance : NonAgg Tryd.prog 60 := ⟨Tryd.isAgg60⟩
instance : SizeOf Tryd.prog 60 1 := ⟨Tryd.sizeOf60⟩
instance : Und Tryd.prog 60 (Go.TypeDesc.tuple #[59, 4]) := ⟨Tryd.underlying60⟩
instance : ZeroOf Tryd.prog 60 (Go.Value.tuple #[Go.Value.slice Option.none 0 0, Go.Value.bool Bool.false]) := ⟨Tryd.zeroValue60⟩
instance : Body Tryd.prog 61 := ⟨Tryd.call61⟩
instance : NonAgg Tryd.prog 61 := ⟨Tryd.isAgg61⟩
instance : SizeOf Tryd.prog 61 1 := ⟨Tryd.sizeOf61⟩
instance : Und Tryd.prog 61 (Go.TypeDesc.func #[9] #[59, 4] Bool.false) := ⟨Tryd.underlying61⟩
instance : ZeroOf Tryd.prog 61 (Go.Value.nilFunc) := ⟨Tryd.zeroValue61⟩
instance : Body Tryd.prog 62 := ⟨Tryd.call62⟩
instance : IsAggT Tryd.prog 62 := ⟨Tryd.isAgg62⟩
instance : SizeOf Tryd.prog 62 2 := ⟨Tryd.sizeOf62⟩
instance : Und Tryd.prog 62 (Go.TypeDesc.struct #[{ name := "S", type := 9, offset := 0, embedded := Bool.false, tag := "", pkgPath := "", byteOffset := 0 }, { name := "Text", type := 4, offset := 1, embedded := Bool.false, tag := "", pkgPath := "", byteOffset := 16 }]) := ⟨Tryd.underlying62⟩
instance : ZeroOf Tryd.prog 62 (Go.Value.agg #[Go.Value.string { data := #[] }, Go.Value.bool Bool.false]) := ⟨Tryd.zeroValue62⟩
instance : Body Tryd.prog 63 := ⟨Tryd.call63⟩
instance : IsAggT Tryd.prog 63 := ⟨Tryd.isAgg63⟩
instance : SizeOf Tryd.prog 63 2 := ⟨Tryd.sizeOf63⟩
instance : Und Tryd.prog 63 (Go.TypeDesc.struct #[{ name := "S", type := 9, offset := 0, embedded := Bool.false, tag := "", pkgPath := "", byteOffset := 0 }, { name := "Text", type := 4, offset := 1, embedded := Bool.false, tag := "", pkgPath := "", byteOffset := 16 }]) := ⟨Tryd.underlying63⟩
instance : ZeroOf Tryd.prog 63 (Go.Value.agg #[Go.Value.string { data := #[] }, Go.Value.bool Bool.false]) := ⟨Tryd.zeroValue63⟩
instance : Body Tryd.prog 64 := ⟨Tryd.call64⟩
instance : NonAgg Tryd.prog 64 := ⟨Tryd.isAgg64⟩
instance : SizeOf Tryd.prog 64 1 := ⟨Tryd.sizeOf64⟩
instance : Und Tryd.prog 64 (Go.TypeDesc.tuple #[9, 4]) := ⟨Tryd.underlying64⟩
instance : ZeroOf Tryd.prog 64 (Go.Value.tuple #[Go.Value.string { data := #[] }, Go.Value.bool Bool.false]) := ⟨Tryd.zeroValue64⟩
instance : Body Tryd.prog 65 := ⟨Tryd.call65⟩
instance : NonAgg Tryd.prog 65 := ⟨Tryd.isAgg65⟩
instance : SizeOf Tryd.prog 65 1 := ⟨Tryd.sizeOf65⟩
instance : Und Tryd.prog 65 (Go.TypeDesc.func #[9] #[9, 4] Bool.false) := ⟨Tryd.underlying65⟩
instance : ZeroOf Tryd.prog 65 (Go.Value.nilFunc) := ⟨Tryd.zeroValue65⟩
instance : Body Tryd.prog 66 := ⟨Tryd.call66⟩
instance : NonAgg Tryd.prog 66 := ⟨Tryd.isAgg66⟩
instance : SizeOf Tryd.prog 66 1 := ⟨Tryd.sizeOf66⟩
instance : Und Tryd.prog 66 (Go.TypeDesc.func #[59, 9] #[4] Bool.false) := ⟨Tryd.underlying66⟩
instance : ZeroOf Tryd.prog 66 (Go.Value.nilFunc) := ⟨Tryd.zeroValue66⟩
instance : Body Tryd.prog 67 := ⟨Tryd.call67⟩
instance : NonAgg Tryd.prog 67 := ⟨Tryd.isAgg67⟩
instance : SizeOf Tryd.prog 67 1 := ⟨Tryd.sizeOf67⟩
instance : Und Tryd.prog 67 (Go.TypeDesc.func #[59] #[23] Bool.false) := ⟨Tryd.underlying67⟩
instance : ZeroOf Tryd.prog 67 (Go.Value.nilFunc) := ⟨Tryd.zeroValue67⟩
instance : Body Tryd.prog 68 := ⟨Tryd.call68⟩
instance : NonAgg Tryd.prog 68 := ⟨Tryd.isAgg68⟩
instance : SizeOf Tryd.prog 68 1 := ⟨Tryd.sizeOf68⟩
instance : Und Tryd.prog 68 (Go.TypeDesc.func #[9, 59] #[46] Bool.false) := ⟨Tryd.underlying68⟩
instance : ZeroOf Tryd.prog 68 (Go.Value.nilFunc) := ⟨Tryd.zeroValue68⟩
instance : Body Tryd.prog 69 := ⟨Tryd.call69⟩
instance : NonAgg Tryd.prog 69 := ⟨Tryd.isAgg69⟩
instance : SizeOf Tryd.prog 69 1 := ⟨Tryd.sizeOf69⟩
instance : Und Tryd.prog 69 (Go.TypeDesc.slice 5) := ⟨Tryd.underlying69⟩
instance : ZeroOf Tryd.prog 69 (Go.Value.slice Option.none 0 0) := ⟨Tryd.zeroValue69⟩
instance : NonAgg Tryd.prog 70 := ⟨Tryd.isAgg70⟩
instance : SizeOf Tryd.prog 70 1 := ⟨Tryd.sizeOf70⟩
instance : Und Tryd.prog 70 (Go.TypeDesc.int Go.IntKind.u64) := ⟨Tryd.underlying70⟩
instance : ZeroOf Tryd.prog 70 (Go.Value.int Go.IntKind.u64 0) := ⟨Tryd.zeroValue70⟩
instance : NonAgg Tryd.prog 71 := ⟨Tryd.isAgg71⟩
instance : SizeOf Tryd.prog 71 1 := ⟨Tryd.sizeOf71⟩
instance : Und Tryd.prog 71 (Go.TypeDesc.pointer 73) := ⟨Tryd.underlying71⟩
instance : ZeroOf Tryd.prog 71 (Go.Value.pointer Option.none) := ⟨Tryd.zeroValue71⟩
instance : Body Tryd.prog 72 := ⟨Tryd.call72⟩
instance : IsAggT Tryd.prog 72 := ⟨Tryd.isAgg72⟩
instance : SizeOf Tryd.prog 72 2 := ⟨Tryd.sizeOf72⟩
instance : Und Tryd.prog 72 (Go.TypeDesc.struct #[{ name := "addr", type := 71, offset := 0, embedded := Bool.false, tag := "", pkgPath := "strings", byteOffset := 0 }, { name := "buf", type := 69, offset := 1, embedded := Bool.false, tag := "", pkgPath := "strings", byteOffset := 8 }]) := ⟨Tryd.underlying72⟩
instance : ZeroOf Tryd.prog 72 (Go.Value.agg #[Go.Value.pointer Option.none, Go.Value.slice Option.none 0 0]) := ⟨Tryd.zeroValue72⟩
instance : Body Tryd.prog 73 := ⟨Tryd.call73⟩
instance : IsAggT Tryd.prog 73 := ⟨Tryd.isAgg73⟩
instance : SizeOf Tryd.prog 73 2 := ⟨Tryd.sizeOf73⟩
instance : Und Tryd.prog 73 (Go.TypeDesc.struct #[{ name := "addr", type := 71, offset := 0, embedded := Bool.false, tag := "", pkgPath := "strings", byteOffset := 0 }, { name := "buf", type := 69, offset := 1, embedded := Bool.false, tag := "", pkgPath := "strings", byteOffset := 8 }]) := ⟨Tryd.underlying73⟩
instance : ZeroOf Tryd.prog 73 (Go.Value.agg #[Go.Value.pointer Option.none, Go.Value.slice Option.none 0 0]) := ⟨Tryd.zeroValue73⟩
instance : NonAgg Tryd.prog 74 := ⟨Tryd.isAgg74⟩
instance : SizeOf Tryd.prog 74 1 := ⟨Tryd.sizeOf74⟩
instance : Und Tryd.prog 74 (Go.TypeDesc.func #[3] #[] Bool.false) := ⟨Tryd.underlying74⟩
instance : ZeroOf Tryd.prog 74 (Go.Value.nilFunc) := ⟨Tryd.zeroValue74⟩
instance : Body Tryd.prog 75 := ⟨Tryd.call75⟩
instance : NonAgg Tryd.prog 75 := ⟨Tryd.isAgg75⟩
instance : SizeOf Tryd.prog 75 1 := ⟨Tryd.sizeOf75⟩
instance : Und Tryd.prog 75 (Go.TypeDesc.interface #[("Error", 79)]) := ⟨Tryd.underlying75⟩
instance : ZeroOf Tryd.prog 75 (Go.Value.nilIface) := ⟨Tryd.zeroValue75⟩
instance : Body Tryd.prog 76 := ⟨Tryd.call76⟩
instance : NonAgg Tryd.prog 76 := ⟨Tryd.isAgg76⟩
instance : SizeOf Tryd.prog 76 1 := ⟨Tryd.sizeOf76⟩
instance : Und Tryd.prog 76 (Go.TypeDesc.interface #[("Error", 79)]) := ⟨Tryd.underlying76⟩
instance : ZeroOf Tryd.prog 76 (Go.Value.nilIface) := ⟨Tryd.zeroValue76⟩
instance : Body Tryd.prog 77 := ⟨Tryd.call77⟩
instance : NonAgg Tryd.prog 77 := ⟨Tryd.isAgg77⟩
instance : SizeOf Tryd.prog 77 1 := ⟨Tryd.sizeOf77⟩
instance : Und Tryd.prog 77 (Go.TypeDesc.tuple #[3, 76]) := ⟨Tryd.underlying77⟩
instance : ZeroOf Tryd.prog 77 (Go.Value.tuple #[Go.Value.int Go.IntKind.i64 0, Go.Value.nilIface]) := ⟨Tryd.zeroValue77⟩
instance : Body Tryd.prog 78 := ⟨Tryd.call78⟩
instance : NonAgg Tryd.prog 78 := ⟨Tryd.isAgg78⟩
instance : SizeOf Tryd.prog 78 1 := ⟨Tryd.sizeOf78⟩
instance : Und Tryd.prog 78 (Go.TypeDesc.func #[9] #[3, 76] Bool.false) := ⟨Tryd.underlying78⟩
instance : ZeroOf Tryd.prog 78 (Go.Value.nilFunc) := ⟨Tryd.zeroValue78⟩
instance : Body Tryd.prog 79 := ⟨Tryd.call79⟩
instance : NonAgg Tryd.prog 79 := ⟨Tryd.isAgg79⟩
instance : SizeOf Tryd.prog 79 1 := ⟨Tryd.sizeOf79⟩
instance : Und Tryd.prog 79 (Go.TypeDesc.func #[] #[9] Bool.false) := ⟨Tryd.underlying79⟩
instance : ZeroOf Tryd.prog 79 (Go.Value.nilFunc) := ⟨Tryd.zeroValue79⟩
instance : Body Tryd.prog 80 := ⟨Tryd.call80⟩
instance : NonAgg Tryd.prog 80 := ⟨Tryd.isAgg80⟩
instance : SizeOf Tryd.prog 80 1 := ⟨Tryd.sizeOf80⟩
instance : Und Tryd.prog 80 (Go.TypeDesc.func #[9, 9, 3, 3] #[33] Bool.false) := ⟨Tryd.underlying80⟩
instance : ZeroOf Tryd.prog 80 (Go.Value.nilFunc) := ⟨Tryd.zeroValue80⟩
instance : Body Tryd.prog 81 := ⟨Tryd.call81⟩
instance : NonAgg Tryd.prog 81 := ⟨Tryd.isAgg81⟩
instance : SizeOf Tryd.prog 81 1 := ⟨Tryd.sizeOf81⟩
instance : Und Tryd.prog 81 (Go.TypeDesc.func #[24, 24, 49] #[4] Bool.false) := ⟨Tryd.underlying81⟩
instance : ZeroOf Tryd.prog 81 (Go.Value.nilFunc) := ⟨Tryd.zeroValue81⟩
instance : Body Tryd.prog 82 := ⟨Tryd.call82⟩
instance : NonAgg Tryd.prog 82 := ⟨Tryd.isAgg82⟩
instance : SizeOf Tryd.prog 82 1 := ⟨Tryd.sizeOf82⟩
instance : Und Tryd.prog 82 (Go.TypeDesc.func #[3] #[9] Bool.false) := ⟨Tryd.underlying82⟩
instance : ZeroOf Tryd.prog 82 (Go.Value.nilFunc) := ⟨Tryd.zeroValue82⟩
instance : NonAgg Tryd.prog 83 := ⟨Tryd.isAgg83⟩
instance : SizeOf Tryd.prog 83 1 := ⟨Tryd.sizeOf83⟩
instance : Und Tryd.prog 83 (Go.TypeDesc.func #[3, 44] #[33] Bool.false) := ⟨Tryd.underlying83⟩
instance : ZeroOf Tryd.prog 83 (Go.Value.nilFunc) := ⟨Tryd.zeroValue83⟩
instance : Body Tryd.prog 84 := ⟨Tryd.call84⟩
instance : NonAgg Tryd.prog 84 := ⟨Tryd.isAgg84⟩
instance : SizeOf Tryd.prog 84 1 := ⟨Tryd.sizeOf84⟩
instance : Und Tryd.prog 84 (Go.TypeDesc.func #[38] #[9] Bool.false) := ⟨Tryd.underlying84⟩
instance : ZeroOf Tryd.prog 84 (Go.Value.nilFunc) := ⟨Tryd.zeroValue84⟩
instance : Body Tryd.prog 85 := ⟨Tryd.call85⟩
instance : NonAgg Tryd.prog 85 := ⟨Tryd.isAgg85⟩
instance : SizeOf Tryd.prog 85 1 := ⟨Tryd.sizeOf85⟩
instance : Und Tryd.prog 85 (Go.TypeDesc.func #[9, 88] #[46] Bool.false) := ⟨Tryd.underlying85⟩
instance : ZeroOf Tryd.prog 85 (Go.Value.nilFunc) := ⟨Tryd.zeroValue85⟩
instance : Body Tryd.prog 86 := ⟨Tryd.call86⟩
instance : NonAgg Tryd.prog 86 := ⟨Tryd.isAgg86⟩
instance : SizeOf Tryd.prog 86 1 := ⟨Tryd.sizeOf86⟩
instance : Und Tryd.prog 86 (Go.TypeDesc.slice 3) := ⟨Tryd.underlying86⟩
instance : ZeroOf Tryd.prog 86 (Go.Value.slice Option.none 0 0) := ⟨Tryd.zeroValue86⟩
instance : Body Tryd.prog 87 := ⟨Tryd.call87⟩
instance : IsAggT Tryd.prog 87 := ⟨Tryd.isAgg87⟩
instance : SizeOf Tryd.prog 87 3 := ⟨Tryd.sizeOf87⟩
instance : Und Tryd.prog 87 (Go.TypeDesc.struct #[{ name := "n", type := 86, offset := 0, embedded := Bool.false, tag := "", pkgPath := "cresset/script", byteOffset := 0 }, { name := "t", type := 33, offset := 1, embedded := Bool.false, tag := "", pkgPath := "cresset/script", byteOffset := 24 }, { name := "keep", type := 38, offset := 2, embedded := Bool.false, tag := "", pkgPath := "cresset/script", byteOffset := 48 }]) := ⟨Tryd.underlying87⟩
instance : ZeroOf Tryd.prog 87 (Go.Value.agg #[Go.Value.slice Option.none 0 0, Go.Value.slice Option.none 0 0, Go.Value.slice Option.none 0 0]) := ⟨Tryd.zeroValue87⟩
instance : Body Tryd.prog 88 := ⟨Tryd.call88⟩
instance : IsAggT Tryd.prog 88 := ⟨Tryd.isAgg88⟩
instance : SizeOf Tryd.prog 88 3 := ⟨Tryd.sizeOf88⟩
instance : Und Tryd.prog 88 (Go.TypeDesc.struct #[{ name := "n", type := 86, offset := 0, embedded := Bool.false, tag := "", pkgPath := "cresset/script", byteOffset := 0 }, { name := "t", type := 33, offset := 1, embedded := Bool.false, tag := "", pkgPath := "cresset/script", byteOffset := 24 }, { name := "keep", type := 38, offset := 2, embedded := Bool.false, tag := "", pkgPath := "cresset/script", byteOffset := 48 }]) := ⟨Tryd.underlying88⟩
instance : ZeroOf Tryd.prog 88 (Go.Value.agg #[Go.Value.slice Option.none 0 0, Go.Value.slice Option.none 0 0, Go.Value.slice Option.none 0 0]) := ⟨Tryd.zeroValue88⟩
instance : Body Tryd.prog 89 := ⟨Tryd.call89⟩
instance : NonAgg Tryd.prog 89 := ⟨Tryd.isAgg89⟩
instance : SizeOf Tryd.prog 89 1 := ⟨Tryd.sizeOf89⟩
instance : Und Tryd.prog 89 (Go.TypeDesc.func #[90] #[88] Bool.false) := ⟨Tryd.underlying89⟩
instance : ZeroOf Tryd.prog 89 (Go.Value.nilFunc) := ⟨Tryd.zeroValue89⟩
instance : Body Tryd.prog 90 := ⟨Tryd.call90⟩
instance : NonAgg Tryd.prog 90 := ⟨Tryd.isAgg90⟩
instance : SizeOf Tryd.prog 90 1 := ⟨Tryd.sizeOf90⟩
instance : Und Tryd.prog 90 (Go.TypeDesc.slice 96) := ⟨Tryd.underlying90⟩
instance : ZeroOf Tryd.prog 90 (Go.Value.slice Option.none 0 0) := ⟨Tryd.zeroValue90⟩
instance : Body Tryd.prog 91 := ⟨Tryd.call91⟩
instance : NonAgg Tryd.prog 91 := ⟨Tryd.isAgg91⟩
instance : SizeOf Tryd.prog 91 1 := ⟨Tryd.sizeOf91⟩
instance : Und Tryd.prog 91 (Go.TypeDesc.func #[9] #[90] Bool.false) := ⟨Tryd.underlying91⟩
instance : ZeroOf Tryd.prog 91 (Go.Value.nilFunc) := ⟨Tryd.zeroValue91⟩
instance : NonAgg Tryd.prog 92 := ⟨Tryd.isAgg92⟩
instance : SizeOf Tryd.prog 92 1 := ⟨Tryd.sizeOf92⟩
instance : Und Tryd.prog 92 (Go.TypeDesc.tuple #[46, 4]) := ⟨Tryd.underlying92⟩
instance : ZeroOf Tryd.prog 92 (Go.Value.tuple #[Go.Value.agg #[Go.Value.int Go.IntKind.i64 0, Go.Value.int Go.IntKind.i64 0, Go.Value.int Go.IntKind.i64 0, Go.Value.int Go.IntKind.i64 0, Go.Value.string { data := #[] }, Go.Value.string { data := #[] }, Go.Value.string { data := #[] }, Go.Value.string { data := #[] }, Go.Value.slice Option.none 0 0], Go.Value.bool Bool.false]) := ⟨Tryd.zeroValue92⟩
instance : Body Tryd.prog 93 := ⟨Tryd.call93⟩
instance : NonAgg Tryd.prog 93 := ⟨Tryd.isAgg93⟩
instance : SizeOf Tryd.prog 93 1 := ⟨Tryd.sizeOf93⟩
instance : Und Tryd.prog 93 (Go.TypeDesc.func #[46] #[46, 4] Bool.false) := ⟨Tryd.underlying93⟩
instance : ZeroOf Tryd.prog 93 (Go.Value.nilFunc) := ⟨Tryd.zeroValue93⟩
instance : Body Tryd.prog 94 := ⟨Tryd.call94⟩
instance : NonAgg Tryd.prog 94 := ⟨Tryd.isAgg94⟩
instance : SizeOf Tryd.prog 94 1 := ⟨Tryd.sizeOf94⟩
instance : Und Tryd.prog 94 (Go.TypeDesc.func #[3, 44] #[9] Bool.false) := ⟨Tryd.underlying94⟩
instance : ZeroOf Tryd.prog 94 (Go.Value.nilFunc) := ⟨Tryd.zeroValue94⟩
instance : Body Tryd.prog 95 := ⟨Tryd.call95⟩
instance : IsAggT Tryd.prog 95 := ⟨Tryd.isAgg95⟩
instance : SizeOf Tryd.prog 95 2 := ⟨Tryd.sizeOf95⟩
instance : Und Tryd.prog 95 (Go.TypeDesc.struct #[{ name := "s", type := 9, offset := 0, embedded := Bool.false, tag := "", pkgPath := "cresset/script", byteOffset := 0 }, { name := "text", type := 4, offset := 1, embedded := Bool.false, tag := "", pkgPath := "cresset/script", byteOffset := 16 }]) := ⟨Tryd.underlying95⟩
instance : ZeroOf Tryd.prog 95 (Go.Value.agg #[Go.Value.string { data := #[] }, Go.Value.bool Bool.false]) := ⟨Tryd.zeroValue95⟩
instance : Body Tryd.prog 96 := ⟨Tryd.call96⟩
instance : IsAggT Tryd.prog 96 := ⟨Tryd.isAgg96⟩
instance : SizeOf Tryd.prog 96 2 := ⟨Tryd.sizeOf96⟩
instance : Und Tryd.prog 96 (Go.TypeDesc.struct #[{ name := "s", type := 9, offset := 0, embedded := Bool.false, tag := "", pkgPath := "cresset/script", byteOffset := 0 }, { name := "text", type := 4, offset := 1, embedded := Bool.false, tag := "", pkgPath := "cresset/script", byteOffset := 16 }]) := ⟨Tryd.underlying96⟩
instance : ZeroOf Tryd.prog 96 (Go.Value.agg #[Go.Value.string { data := #[] }, Go.Value.bool Bool.false]) := ⟨Tryd.zeroValue96⟩
instance : Body Tryd.prog 97 := ⟨Tryd.call97⟩
instance : NonAgg Tryd.prog 97 := ⟨Tryd.isAgg97⟩
instance : SizeOf Tryd.prog 97 1 := ⟨Tryd.sizeOf97⟩
instance : Und Tryd.prog 97 (Go.TypeDesc.tuple #[9, 3, 4]) := ⟨Tryd.underlying97⟩
instance : ZeroOf Tryd.prog 97 (Go.Value.tuple #[Go.Value.string { data := #[] }, Go.Value.int Go.IntKind.i64 0, Go.Value.bool Bool.false]) := ⟨Tryd.zeroValue97⟩
instance : Body Tryd.prog 98 := ⟨Tryd.call98⟩
instance : NonAgg Tryd.prog 98 := ⟨Tryd.isAgg98⟩
instance : SizeOf Tryd.prog 98 1 := ⟨Tryd.sizeOf98⟩
instance : Und Tryd.prog 98 (Go.TypeDesc.func #[9, 3] #[9, 3, 4] Bool.false) := ⟨Tryd.underlying98⟩
instance : ZeroOf Tryd.prog 98 (Go.Value.nilFunc) := ⟨Tryd.zeroValue98⟩
instance : Body Tryd.prog 99 := ⟨Tryd.call99⟩
instance : NonAgg Tryd.prog 99 := ⟨Tryd.isAgg99⟩
instance : SizeOf Tryd.prog 99 1 := ⟨Tryd.sizeOf99⟩
instance : Und Tryd.prog 99 (Go.TypeDesc.tuple #[3, 4]) := ⟨Tryd.underlying99⟩
instance : ZeroOf Tryd.prog 99 (Go.Value.tuple #[Go.Value.int Go.IntKind.i64 0, Go.Value.bool Bool.false]) := ⟨Tryd.zeroValue99⟩
instance : Body Tryd.prog 100 := ⟨Tryd.call100⟩
instance : NonAgg Tryd.prog 100 := ⟨Tryd.isAgg100⟩
instance : SizeOf Tryd.prog 100 1 := ⟨Tryd.sizeOf100⟩
instance : Und Tryd.prog 100 (Go.TypeDesc.func #[9] #[3, 4] Bool.false) := ⟨Tryd.underlying100⟩
instance : ZeroOf Tryd.prog 100 (Go.Value.nilFunc) := ⟨Tryd.zeroValue100⟩
instance : Body Tryd.prog 101 := ⟨Tryd.call101⟩
instance : NonAgg Tryd.prog 101 := ⟨Tryd.isAgg101⟩
instance : SizeOf Tryd.prog 101 1 := ⟨Tryd.sizeOf101⟩
instance : Und Tryd.prog 101 (Go.TypeDesc.tuple #[38, 4]) := ⟨Tryd.underlying101⟩
instance : ZeroOf Tryd.prog 101 (Go.Value.tuple #[Go.Value.slice Option.none 0 0, Go.Value.bool Bool.false]) := ⟨Tryd.zeroValue101⟩
instance : Body Tryd.prog 102 := ⟨Tryd.call102⟩
instance : NonAgg Tryd.prog 102 := ⟨Tryd.isAgg102⟩
instance : SizeOf Tryd.prog 102 1 := ⟨Tryd.sizeOf102⟩
instance : Und Tryd.prog 102 (Go.TypeDesc.func #[9] #[38, 4] Bool.false) := ⟨Tryd.underlying102⟩
instance : ZeroOf Tryd.prog 102 (Go.Value.nilFunc) := ⟨Tryd.zeroValue102⟩
instance : Body Tryd.prog 103 := ⟨Tryd.call103⟩
instance : IsAggT Tryd.prog 103 := ⟨Tryd.isAgg103⟩
instance : SizeOf Tryd.prog 103 7 := ⟨Tryd.sizeOf103⟩
instance : Und Tryd.prog 103 (Go.TypeDesc.array 7 3) := ⟨Tryd.underlying103⟩
instance : ZeroOf Tryd.prog 103 (Go.Value.agg #[Go.Value.int Go.IntKind.i64 0, Go.Value.int Go.IntKind.i64 0, Go.Value.int Go.IntKind.i64 0, Go.Value.int Go.IntKind.i64 0, Go.Value.int Go.IntKind.i64 0, Go.Value.int Go.IntKind.i64 0, Go.Value.int Go.IntKind.i64 0]) := ⟨Tryd.zeroValue103⟩
instance : Body Tryd.prog 104 := ⟨Tryd.call104⟩
instance : NonAgg Tryd.prog 104 := ⟨Tryd.isAgg104⟩
instance : SizeOf Tryd.prog 104 1 := ⟨Tryd.sizeOf104⟩
instance : Und Tryd.prog 104 (Go.TypeDesc.func #[9] #[3] Bool.false) := ⟨Tryd.underlying104⟩
instance : ZeroOf Tryd.prog 104 (Go.Value.nilFunc) := ⟨Tryd.zeroValue104⟩
instance : Body Tryd.prog 105 := ⟨Tryd.call105⟩
instance : NonAgg Tryd.prog 105 := ⟨Tryd.isAgg105⟩
instance : SizeOf Tryd.prog 105 1 := ⟨Tryd.sizeOf105⟩
instance : Und Tryd.prog 105 (Go.TypeDesc.pointer 5) := ⟨Tryd.underlying105⟩
instance : ZeroOf Tryd.prog 105 (Go.Value.pointer Option.none) := ⟨Tryd.zeroValue105⟩
instance : Body Tryd.prog 106 := ⟨Tryd.call106⟩
instance : NonAgg Tryd.prog 106 := ⟨Tryd.isAgg106⟩
instance : SizeOf Tryd.prog 106 1 := ⟨Tryd.sizeOf106⟩
instance : Und Tryd.prog 106 (Go.TypeDesc.func #[9, 3] #[33] Bool.false) := ⟨Tryd.underlying106⟩
instance : ZeroOf Tryd.prog 106 (Go.Value.nilFunc) := ⟨Tryd.zeroValue106⟩
instance : Body Tryd.prog 107 := ⟨Tryd.call107⟩
instance : NonAgg Tryd.prog 107 := ⟨Tryd.isAgg107⟩
instance : SizeOf Tryd.prog 107 1 := ⟨Tryd.sizeOf107⟩
instance : Und Tryd.prog 107 (Go.TypeDesc.func #[9, 9] #[3] Bool.false) := ⟨Tryd.underlying107⟩
instance : ZeroOf Tryd.prog 107 (Go.Value.nilFunc) := ⟨Tryd.zeroValue107⟩
instance : Body Tryd.prog 108 := ⟨Tryd.call108⟩
instance : NonAgg Tryd.prog 108 := ⟨Tryd.isAgg108⟩
instance : SizeOf Tryd.prog 108 1 := ⟨Tryd.sizeOf108⟩
instance : Und Tryd.prog 108 (Go.TypeDesc.func #[38, 38] #[4] Bool.false) := ⟨Tryd.underlying108⟩
instance : ZeroOf Tryd.prog 108 (Go.Value.nilFunc) := ⟨Tryd.zeroValue108⟩
instance : Body Tryd.prog 109 := ⟨Tryd.call109⟩
instance : NonAgg Tryd.prog 109 := ⟨Tryd.isAgg109⟩
instance : SizeOf Tryd.prog 109 1 := ⟨Tryd.sizeOf109⟩
instance : Und Tryd.prog 109 (Go.TypeDesc.func #[44] #[46] Bool.false) := ⟨Tryd.underlying109⟩
instance : ZeroOf Tryd.prog 109 (Go.Value.nilFunc) := ⟨Tryd.zeroValue109⟩
instance : Body Tryd.prog 110 := ⟨Tryd.call110⟩
instance : NonAgg Tryd.prog 110 := ⟨Tryd.isAgg110⟩
instance : SizeOf Tryd.prog 110 1 := ⟨Tryd.sizeOf110⟩
instance : Und Tryd.prog 110 (Go.TypeDesc.func #[9] #[38] Bool.false) := ⟨Tryd.underlying110⟩
instance : ZeroOf Tryd.prog 110 (Go.Value.nilFunc) := ⟨Tryd.zeroValue110⟩
instance : Body Tryd.prog 111 := ⟨Tryd.call111⟩
instance : NonAgg Tryd.prog 111 := ⟨Tryd.isAgg111⟩
instance : SizeOf Tryd.prog 111 1 := ⟨Tryd.sizeOf111⟩
instance : Und Tryd.prog 111 (Go.TypeDesc.func #[9, 9] #[9] Bool.false) := ⟨Tryd.underlying111⟩
instance : ZeroOf Tryd.prog 111 (Go.Value.nilFunc) := ⟨Tryd.zeroValue111⟩
instance : Body Tryd.prog 112 := ⟨Tryd.call112⟩
instance : NonAgg Tryd.prog 112 := ⟨Tryd.isAgg112⟩
instance : SizeOf Tryd.prog 112 1 := ⟨Tryd.sizeOf112⟩
instance : Und Tryd.prog 112 (Go.TypeDesc.tuple #[9, 9]) := ⟨Tryd.underlying112⟩
instance : ZeroOf Tryd.prog 112 (Go.Value.tuple #[Go.Value.string { data := #[] }, Go.Value.string { data := #[] }]) := ⟨Tryd.zeroValue112⟩
instance : Body Tryd.prog 113 := ⟨Tryd.call113⟩
instance : NonAgg Tryd.prog 113 := ⟨Tryd.isAgg113⟩
instance : SizeOf Tryd.prog 113 1 := ⟨Tryd.sizeOf113⟩
instance : Und Tryd.prog 113 (Go.TypeDesc.func #[9] #[9, 9] Bool.false) := ⟨Tryd.underlying113⟩
instance : ZeroOf Tryd.prog 113 (Go.Value.nilFunc) := ⟨Tryd.zeroValue113⟩
instance : Body Tryd.prog 114 := ⟨Tryd.call114⟩
instance : NonAgg Tryd.prog 114 := ⟨Tryd.isAgg114⟩
instance : SizeOf Tryd.prog 114 1 := ⟨Tryd.sizeOf114⟩
instance : Und Tryd.prog 114 (Go.TypeDesc.int Go.IntKind.u64) := ⟨Tryd.underlying114⟩
instance : ZeroOf Tryd.prog 114 (Go.Value.int Go.IntKind.u64 0) := ⟨Tryd.zeroValue114⟩
instance : Body Tryd.prog 115 := ⟨Tryd.call115⟩
instance : NonAgg Tryd.prog 115 := ⟨Tryd.isAgg115⟩
instance : SizeOf Tryd.prog 115 1 := ⟨Tryd.sizeOf115⟩
instance : Und Tryd.prog 115 (Go.TypeDesc.func #[5] #[3] Bool.false) := ⟨Tryd.underlying115⟩
instance : ZeroOf Tryd.prog 115 (Go.Value.nilFunc) := ⟨Tryd.zeroValue115⟩
instance : Body Tryd.prog 116 := ⟨Tryd.call116⟩
instance : NonAgg Tryd.prog 116 := ⟨Tryd.isAgg116⟩
instance : SizeOf Tryd.prog 116 1 := ⟨Tryd.sizeOf116⟩
instance : Und Tryd.prog 116 (Go.TypeDesc.unsafePointer) := ⟨Tryd.underlying116⟩
instance : ZeroOf Tryd.prog 116 (Go.Value.pointer Option.none) := ⟨Tryd.zeroValue116⟩
instance : NonAgg Tryd.prog 117 := ⟨Tryd.isAgg117⟩
instance : SizeOf Tryd.prog 117 1 := ⟨Tryd.sizeOf117⟩
instance : Und Tryd.prog 117 (Go.TypeDesc.func #[116] #[116] Bool.false) := ⟨Tryd.underlying117⟩
instance : ZeroOf Tryd.prog 117 (Go.Value.nilFunc) := ⟨Tryd.zeroValue117⟩
instance : NonAgg Tryd.prog 118 := ⟨Tryd.isAgg118⟩
instance : SizeOf Tryd.prog 118 1 := ⟨Tryd.sizeOf118⟩
instance : Und Tryd.prog 118 (Go.TypeDesc.func #[3] #[69] Bool.false) := ⟨Tryd.underlying118⟩
instance : ZeroOf Tryd.prog 118 (Go.Value.nilFunc) := ⟨Tryd.zeroValue118⟩
instance : NonAgg Tryd.prog 119 := ⟨Tryd.isAgg119⟩
instance : SizeOf Tryd.prog 119 1 := ⟨Tryd.sizeOf119⟩
instance : Und Tryd.prog 119 (Go.TypeDesc.tuple #[21, 3]) := ⟨Tryd.underlying119⟩
instance : ZeroOf Tryd.prog 119 (Go.Value.tuple #[Go.Value.int Go.IntKind.i32 0, Go.Value.int Go.IntKind.i64 0]) := ⟨Tryd.zeroValue119⟩
instance : NonAgg Tryd.prog 120 := ⟨Tryd.isAgg120⟩
instance : SizeOf Tryd.prog 120 1 := ⟨Tryd.sizeOf120⟩
instance : Und Tryd.prog 120 (Go.TypeDesc.func #[9] #[21, 3] Bool.false) := ⟨Tryd.underlying120⟩
instance : ZeroOf Tryd.prog 120 (Go.Value.nilFunc) := ⟨Tryd.zeroValue120⟩
instance : NonAgg Tryd.prog 121 := ⟨Tryd.isAgg121⟩
instance : SizeOf Tryd.prog 121 1 := ⟨Tryd.sizeOf121⟩
instance : Und Tryd.prog 121 (Go.TypeDesc.func #[9, 5] #[3] Bool.false) := ⟨Tryd.underlying121⟩
instance : ZeroOf Tryd.prog 121 (Go.Value.nilFunc) := ⟨Tryd.zeroValue121⟩
instance : NonAgg Tryd.prog 122 := ⟨Tryd.isAgg122⟩
instance : SizeOf Tryd.prog 122 1 := ⟨Tryd.sizeOf122⟩
instance : Und Tryd.prog 122 (Go.TypeDesc.func #[9, 5] #[9] Bool.false) := ⟨Tryd.underlying122⟩
instance : ZeroOf Tryd.prog 122 (Go.Value.nilFunc) := ⟨Tryd.zeroValue122⟩
instance : IsAggT Tryd.prog 123 := ⟨Tryd.isAgg123⟩
instance : SizeOf Tryd.prog 123 256 := ⟨Tryd.sizeOf123⟩
instance : Und Tryd.prog 123 (Go.TypeDesc.array 256 4) := ⟨Tryd.underlying123⟩
instance : ZeroOf Tryd.prog 123 (Go.Value.agg Go.Proofs.Tryd.zeroCells123) := ⟨Tryd.zeroValue123⟩
instance : IsAggT Tryd.prog 124 := ⟨Tryd.isAgg124⟩
instance : SizeOf Tryd.prog 124 256 := ⟨Tryd.sizeOf124⟩
instance : Und Tryd.prog 124 (Go.TypeDesc.array 256 4) := ⟨Tryd.underlying124⟩
instance : ZeroOf Tryd.prog 124 (Go.Value.agg Go.Proofs.Tryd.zeroCells124) := ⟨Tryd.zeroValue124⟩
instance : NonAgg Tryd.prog 125 := ⟨Tryd.isAgg125⟩
instance : SizeOf Tryd.prog 125 1 := ⟨Tryd.sizeOf125⟩
instance : Und Tryd.prog 125 (Go.TypeDesc.tuple #[124, 4]) := ⟨Tryd.underlying125⟩
instance : ZeroOf Tryd.prog 125 (Go.Value.tuple #[Go.Value.agg (([Go.Value.bool Bool.false, Go.Value.bool Bool.false, Go.Value.bool Bool.false, Go.Value.bool Bool.false, Go.Value.bool Bool.false, Go.Value.bool Bool.false, Go.Value.bool Bool.false, Go.Value.bool Bool.false, Go.Value.bool Bool.false, Go.Value.bool Bool.false, Go.Value.bool Bool.false, Go.Value.bool Bool.false, Go.Value.bool Bool.false, Go.Value.bool Bool.false, Go.Value.bool Bool.false, Go.Value.bool Bool.false, Go.Value.bool Bool.false, Go.Value.bool Bool.false, Go.Value.bool Bool.false, Go.Value.bool Bool.false, Go.Value.bool Bool.false, Go.Value.bool Bool.false, Go.Value.bool Bool.false, Go.Value.bool Bool.false, Go.Value.bool Bool.false, Go.Value.bool Bool.false, Go.Value.bool Bool.false, Go.Value.bool Bool.false, Go.Value.bool Bool.false, Go.Value.bool Bool.false, Go.Value.bool Bool.false, Go.Value.bool Bool.false, Go.Value.bool Bool.false, Go.Value.bool Bool.false, Go.Value.bool Bool.false, Go.Value.bool Bool.false, Go.Value.bool Bool.false, Go.Value.bool Bool.false, Go.Value.bool Bool.false, Go.Value.bool Bool.false, Go.Value.bool Bool.false, Go.Value.bool Bool.false, Go.Value.bool Bool.false, Go.Value.bool Bool.false, Go.Value.bool Bool.false, Go.Value.bool Bool.false, Go.Value.bool Bool.false, Go.Value.bool Bool.false, Go.Value.bool Bool.false, Go.Value.bool Bool.false, Go.Value.bool Bool.false, Go.Value.bool Bool.false, Go.Value.bool Bool.false, Go.Value.bool Bool.false, Go.Value.bool Bool.false, Go.Value.bool Bool.false, Go.Value.bool Bool.false, Go.Value.bool Bool.false, Go.Value.bool Bool.false, Go.Value.bool Bool.false, Go.Value.bool Bool.false, Go.Value.bool Bool.false, Go.Value.bool Bool.false, Go.Value.bool Bool.false].append [Go.Value.bool Bool.false, Go.Value.bool Bool.false, Go.Value.bool Bool.false, Go.Value.bool Bool.false, Go.Value.bool Bool.false, Go.Value.bool Bool.false, Go.Value.bool Bool.false, Go.Value.bool Bool.false, Go.Value.bool Bool.false, Go.Value.bool Bool.false, Go.Value.bool Bool.false, Go.Value.bool Bool.false, Go.Value.bool Bool.false, Go.Value.bool Bool.false, Go.Value.bool Bool.false, Go.Value.bool Bool.false, Go.Value.bool Bool.false, Go.Value.bool Bool.false, Go.Value.bool Bool.false, Go.Value.bool Bool.false, Go.Value.bool Bool.false, Go.Value.bool Bool.false, Go.Value.bool Bool.false, Go.Value.bool Bool.false, Go.Value.bool Bool.false, Go.Value.bool Bool.false, Go.Value.bool Bool.false, Go.Value.bool Bool.false, Go.Value.bool Bool.false, Go.Value.bool Bool.false, Go.Value.bool Bool.false, Go.Value.bool Bool.false, Go.Value.bool Bool.false, Go.Value.bool Bool.false, Go.Value.bool Bool.false, Go.Value.bool Bool.false, Go.Value.bool Bool.false, Go.Value.bool Bool.false, Go.Value.bool Bool.false, Go.Value.bool Bool.false, Go.Value.bool Bool.false, Go.Value.bool Bool.false, Go.Value.bool Bool.false, Go.Value.bool Bool.false, Go.Value.bool Bool.false, Go.Value.bool Bool.false, Go.Value.bool Bool.false, Go.Value.bool Bool.false, Go.Value.bool Bool.false, Go.Value.bool Bool.false, Go.Value.bool Bool.false, Go.Value.bool Bool.false, Go.Value.bool Bool.false, Go.Value.bool Bool.false, Go.Value.bool Bool.false, Go.Value.bool Bool.false, Go.Value.bool Bool.false, Go.Value.bool Bool.false, Go.Value.bool Bool.false, Go.Value.bool Bool.false, Go.Value.bool Bool.false, Go.Value.bool Bool.false, Go.Value.bool Bool.false, Go.Value.bool Bool.false]).append ([Go.Value.bool Bool.false, Go.Value.bool Bool.false, Go.Value.bool Bool.false, Go.Value.bool Bool.false, Go.Value.bool Bool.false, Go.Value.bool Bool.false, Go.Value.bool Bool.false, Go.Value.bool Bool.false, Go.Value.bool Bool.false, Go.Value.bool Bool.false, Go.Value.bool Bool.false, Go.Value.bool Bool.false, Go.Value.bool Bool.false, Go.Value.bool Bool.false, Go.Value.bool Bool.false, Go.Value.bool Bool.false, Go.Value.bool Bool.false, Go.Value.bool Bool.false, Go.Value.bool Bool.false, Go.Value.bool Bool.false, Go.Value.bool Bool.false, Go.Value.bool Bool.false, Go.Value.bool Bool.false, Go.Value.bool Bool.false, Go.Value.bool Bool.false, Go.Value.bool Bool.false, Go.Value.bool Bool.false, Go.Value.bool Bool.false, Go.Value.bool Bool.false, Go.Value.bool Bool.false, Go.Value.bool Bool.false, Go.Value.bool Bool.false, Go.Value.bool Bool.false, Go.Value.bool Bool.false, Go.Value.bool Bool.false, Go.Value.bool Bool.false, Go.Value.bool Bool.false, Go.Value.bool Bool.false, Go.Value.bool Bool.false, Go.Value.bool Bool.false, Go.Value.bool Bool.false, Go.Value.bool Bool.false, Go.Value.bool Bool.false, Go.Value.bool Bool.false, Go.Value.bool Bool.false, Go.Value.bool Bool.false, Go.Value.bool Bool.false, Go.Value.bool Bool.false, Go.Value.bool Bool.false, Go.Value.bool Bool.false, Go.Value.bool Bool.false, Go.Value.bool Bool.false, Go.Value.bool Bool.false, Go.Value.bool Bool.false, Go.Value.bool Bool.false, Go.Value.bool Bool.false, Go.Value.bool Bool.false, Go.Value.bool Bool.false, Go.Value.bool Bool.false, Go.Value.bool Bool.false, Go.Value.bool Bool.false, Go.Value.bool Bool.false, Go.Value.bool Bool.false, Go.Value.bool Bool.false].append [Go.Value.bool Bool.false, Go.Value.bool Bool.false, Go.Value.bool Bool.false, Go.Value.bool Bool.false, Go.Value.bool Bool.false, Go.Value.bool Bool.false, Go.Value.bool Bool.false, Go.Value.bool Bool.false, Go.Value.bool Bool.false, Go.Value.bool Bool.false, Go.Value.bool Bool.false, Go.Value.bool Bool.false, Go.Value.bool Bool.false, Go.Value.bool Bool.false, Go.Value.bool Bool.false, Go.Value.bool Bool.false, Go.Value.bool Bool.false, Go.Value.bool Bool.false, Go.Value.bool Bool.false, Go.Value.bool Bool.false, Go.Value.bool Bool.false, Go.Value.bool Bool.false, Go.Value.bool Bool.false, Go.Value.bool Bool.false, Go.Value.bool Bool.false, Go.Value.bool Bool.false, Go.Value.bool Bool.false, Go.Value.bool Bool.false, Go.Value.bool Bool.false, Go.Value.bool Bool.false, Go.Value.bool Bool.false, Go.Value.bool Bool.false, Go.Value.bool Bool.false, Go.Value.bool Bool.false, Go.Value.bool Bool.false, Go.Value.bool Bool.false, Go.Value.bool Bool.false, Go.Value.bool Bool.false, Go.Value.bool Bool.false, Go.Value.bool Bool.false, Go.Value.bool Bool.false, Go.Value.bool Bool.false, Go.Value.bool Bool.false, Go.Value.bool Bool.false, Go.Value.bool Bool.false, Go.Value.bool Bool.false, Go.Value.bool Bool.false, Go.Value.bool Bool.false, Go.Value.bool Bool.false, Go.Value.bool Bool.false, Go.Value.bool Bool.false, Go.Value.bool Bool.false, Go.Value.bool Bool.false, Go.Value.bool Bool.false, Go.Value.bool Bool.false, Go.Value.bool Bool.false, Go.Value.bool Bool.false, Go.Value.bool Bool.false, Go.Value.bool Bool.false, Go.Value.bool Bool.false, Go.Value.bool Bool.false, Go.Value.bool Bool.false, Go.Value.bool Bool.false, Go.Value.bool Bool.false])).toArray, Go.Value.bool Bool.false]) := ⟨Tryd.zeroValue125⟩
instance : NonAgg Tryd.prog 126 := ⟨Tryd.isAgg126⟩
instance : SizeOf Tryd.prog 126 1 := ⟨Tryd.sizeOf126⟩
instance : Und Tryd.prog 126 (Go.TypeDesc.func #[9] #[124, 4] Bool.false) := ⟨Tryd.underlying126⟩
instance : ZeroOf Tryd.prog 126 (Go.Value.nilFunc) := ⟨Tryd.zeroValue126⟩
instance : NonAgg Tryd.prog 127 := ⟨Tryd.isAgg127⟩
instance : SizeOf Tryd.prog 127 1 := ⟨Tryd.sizeOf127⟩
instance : Und Tryd.prog 127 (Go.TypeDesc.func #[9, 128] #[9] Bool.false) := ⟨Tryd.underlying127⟩
instance : ZeroOf Tryd.prog 127 (Go.Value.nilFunc) := ⟨Tryd.zeroValue127⟩
instance : NonAgg Tryd.prog 128 := ⟨Tryd.isAgg128⟩
instance : SizeOf Tryd.prog 128 1 := ⟨Tryd.sizeOf128⟩
instance : Und Tryd.prog 128 (Go.TypeDesc.pointer 124) := ⟨Tryd.underlying128⟩
instance : ZeroOf Tryd.prog 128 (Go.Value.pointer Option.none) := ⟨Tryd.zeroValue128⟩
instance : NonAgg Tryd.prog 129 := ⟨Tryd.isAgg129⟩
instance : SizeOf Tryd.prog 129 1 := ⟨Tryd.sizeOf129⟩
instance : Und Tryd.prog 129 (Go.TypeDesc.func #[3] #[3] Bool.false) := ⟨Tryd.underlying129⟩
instance : ZeroOf Tryd.prog 129 (Go.Value.nilFunc) := ⟨Tryd.zeroValue129⟩
instance : NonAgg Tryd.prog 130 := ⟨Tryd.isAgg130⟩
instance : SizeOf Tryd.prog 130 1 := ⟨Tryd.sizeOf130⟩
instance : Und Tryd.prog 130 (Go.TypeDesc.func #[2, 3] #[9] Bool.false) := ⟨Tryd.underlying130⟩
instance : ZeroOf Tryd.prog 130 (Go.Value.nilFunc) := ⟨Tryd.zeroValue130⟩
instance : NonAgg Tryd.prog 131 := ⟨Tryd.isAgg131⟩
instance : SizeOf Tryd.prog 131 1 := ⟨Tryd.sizeOf131⟩
instance : Und Tryd.prog 131 (Go.TypeDesc.func #[9, 9, 3, 3, 76] #[76] Bool.false) := ⟨Tryd.underlying131⟩
instance : ZeroOf Tryd.prog 131 (Go.Value.nilFunc) := ⟨Tryd.zeroValue131⟩
instance : NonAgg Tryd.prog 132 := ⟨Tryd.isAgg132⟩
instance : SizeOf Tryd.prog 132 1 := ⟨Tryd.sizeOf132⟩
instance : Und Tryd.prog 132 (Go.TypeDesc.func #[5] #[4] Bool.false) := ⟨Tryd.underlying132⟩
instance : ZeroOf Tryd.prog 132 (Go.Value.nilFunc) := ⟨Tryd.zeroValue132⟩
instance : NonAgg Tryd.prog 133 := ⟨Tryd.isAgg133⟩
instance : SizeOf Tryd.prog 133 1 := ⟨Tryd.sizeOf133⟩
instance : Und Tryd.prog 133 (Go.TypeDesc.func #[9, 21] #[4] Bool.false) := ⟨Tryd.underlying133⟩
instance : ZeroOf Tryd.prog 133 (Go.Value.nilFunc) := ⟨Tryd.zeroValue133⟩
instance : NonAgg Tryd.prog 134 := ⟨Tryd.isAgg134⟩
instance : SizeOf Tryd.prog 134 1 := ⟨Tryd.sizeOf134⟩
instance : Und Tryd.prog 134 (Go.TypeDesc.int Go.IntKind.u32) := ⟨Tryd.underlying134⟩
instance : ZeroOf Tryd.prog 134 (Go.Value.int Go.IntKind.u32 0) := ⟨Tryd.zeroValue134⟩
instance : NonAgg Tryd.prog 135 := ⟨Tryd.isAgg135⟩
instance : SizeOf Tryd.prog 135 1 := ⟨Tryd.sizeOf135⟩
instance : Und Tryd.prog 135 (Go.TypeDesc.tuple #[134, 134]) := ⟨Tryd.underlying135⟩
instance : ZeroOf Tryd.prog 135 (Go.Value.tuple #[Go.Value.int Go.IntKind.u32 0, Go.Value.int Go.IntKind.u32 0]) := ⟨Tryd.zeroValue135⟩
instance : NonAgg Tryd.prog 136 := ⟨Tryd.isAgg136⟩
instance : SizeOf Tryd.prog 136 1 := ⟨Tryd.sizeOf136⟩
instance : Und Tryd.prog 136 (Go.TypeDesc.func #[9] #[134, 134] Bool.false) := ⟨Tryd.underlying136⟩
instance : ZeroOf Tryd.prog 136 (Go.Value.nilFunc) := ⟨Tryd.zeroValue136⟩
instance : IsAggT Tryd.prog 137 := ⟨Tryd.isAgg137⟩
instance : SizeOf Tryd.prog 137 256 := ⟨Tryd.sizeOf137⟩
instance : Und Tryd.prog 137 (Go.TypeDesc.array 256 5) := ⟨Tryd.underlying137⟩
instance : ZeroOf Tryd.prog 137 (Go.Value.agg Go.Proofs.Tryd.zeroCells137) := ⟨Tryd.zeroValue137⟩
instance : IsAggT Tryd.prog 138 := ⟨Tryd.isAgg138⟩
instance : SizeOf Tryd.prog 138 2 := ⟨Tryd.sizeOf138⟩
instance : Und Tryd.prog 138 (Go.TypeDesc.struct #[{ name := "lo", type := 5, offset := 0, embedded := Bool.false, tag := "", pkgPath := "unicode/utf8", byteOffset := 0 }, { name := "hi", type := 5, offset := 1, embedded := Bool.false, tag := "", pkgPath := "unicode/utf8", byteOffset := 1 }]) := ⟨Tryd.underlying138⟩
instance : ZeroOf Tryd.prog 138 (Go.Value.agg #[Go.Value.int Go.IntKind.u8 0, Go.Value.int Go.IntKind.u8 0]) := ⟨Tryd.zeroValue138⟩
instance : IsAggT Tryd.prog 139 := ⟨Tryd.isAgg139⟩
instance : SizeOf Tryd.prog 139 2 := ⟨Tryd.sizeOf139⟩
instance : Und Tryd.prog 139 (Go.TypeDesc.struct #[{ name := "lo", type := 5, offset := 0, embedded := Bool.false, tag := "", pkgPath := "unicode/utf8", byteOffset := 0 }, { name := "hi", type := 5, offset := 1, embedded := Bool.false, tag := "", pkgPath := "unicode/utf8", byteOffset := 1 }]) := ⟨Tryd.underlying139⟩
instance : ZeroOf Tryd.prog 139 (Go.Value.agg #[Go.Value.int Go.IntKind.u8 0, Go.Value.int Go.IntKind.u8 0]) := ⟨Tryd.zeroValue139⟩
instance : IsAggT Tryd.prog 140 := ⟨Tryd.isAgg140⟩
instance : SizeOf Tryd.prog 140 32 := ⟨Tryd.sizeOf140⟩
instance : Und Tryd.prog 140 (Go.TypeDesc.array 16 139) := ⟨Tryd.underlying140⟩
instance : ZeroOf Tryd.prog 140 (Go.Value.agg #[Go.Value.int Go.IntKind.u8 0, Go.Value.int Go.IntKind.u8 0, Go.Value.int Go.IntKind.u8 0, Go.Value.int Go.IntKind.u8 0, Go.Value.int Go.IntKind.u8 0, Go.Value.int Go.IntKind.u8 0, Go.Value.int Go.IntKind.u8 0, Go.Value.int Go.IntKind.u8 0, Go.Value.int Go.IntKind.u8 0, Go.Value.int Go.IntKind.u8 0, Go.Value.int Go.IntKind.u8 0, Go.Value.int Go.IntKind.u8 0, Go.Value.int Go.IntKind.u8 0, Go.Value.int Go.IntKind.u8 0, Go.Value.int Go.IntKind.u8 0, Go.Value.int Go.IntKind.u8 0, Go.Value.int Go.IntKind.u8 0, Go.Value.int Go.IntKind.u8 0, Go.Value.int Go.IntKind.u8 0, Go.Value.int Go.IntKind.u8 0, Go.Value.int Go.IntKind.u8 0, Go.Value.int Go.IntKind.u8 0, Go.Value.int Go.IntKind.u8 0, Go.Value.int Go.IntKind.u8 0, Go.Value.int Go.IntKind.u8 0, Go.Value.int Go.IntKind.u8 0, Go.Value.int Go.IntKind.u8 0, Go.Value.int Go.IntKind.u8 0, Go.Value.int Go.IntKind.u8 0, Go.Value.int Go.IntKind.u8 0, Go.Value.int Go.IntKind.u8 0, Go.Value.int Go.IntKind.u8 0]) := ⟨Tryd.zeroValue140⟩
instance : IsAggT Tryd.prog 141 := ⟨Tryd.isAgg141⟩
instance : SizeOf Tryd.prog 141 24 := ⟨Tryd.sizeOf141⟩
instance : Und Tryd.prog 141 (Go.TypeDesc.array 24 5) := ⟨Tryd.underlying141⟩
instance : ZeroOf Tryd.prog 141 (Go.Value.agg #[Go.Value.int Go.IntKind.u8 0, Go.Value.int Go.IntKind.u8 0, Go.Value.int Go.IntKind.u8 0, Go.Value.int Go.IntKind.u8 0, Go.Value.int Go.IntKind.u8 0, Go.Value.int Go.IntKind.u8 0, Go.Value.int Go.IntKind.u8 0, Go.Value.int Go.IntKind.u8 0, Go.Value.int Go.IntKind.u8 0, Go.Value.int Go.IntKind.u8 0, Go.Value.int Go.IntKind.u8 0, Go.Value.int Go.IntKind.u8 0, Go.Value.int Go.IntKind.u8 0, Go.Value.int Go.IntKind.u8 0, Go.Value.int Go.IntKind.u8 0, Go.Value.int Go.IntKind.u8 0, Go.Value.int Go.IntKind.u8 0, Go.Value.int Go.IntKind.u8 0, Go.Value.int Go.IntKind.u8 0, Go.Value.int Go.IntKind.u8 0, Go.Value.int Go.IntKind.u8 0, Go.Value.int Go.IntKind.u8 0, Go.Value.int Go.IntKind.u8 0, Go.Value.int Go.IntKind.u8 0]) := ⟨Tryd.zeroValue141⟩
instance : NonAgg Tryd.prog 142 := ⟨Tryd.isAgg142⟩
instance : SizeOf Tryd.prog 142 1 := ⟨Tryd.sizeOf142⟩
instance : Und Tryd.prog 142 (Go.TypeDesc.func #[114] #[3] Bool.false) := ⟨Tryd.underlying142⟩
instance : ZeroOf Tryd.prog 142 (Go.Value.nilFunc) := ⟨Tryd.zeroValue142⟩
instance : NonAgg Tryd.prog 143 := ⟨Tryd.isAgg143⟩
instance : SizeOf Tryd.prog 143 1 := ⟨Tryd.sizeOf143⟩
instance : Und Tryd.prog 143 (Go.TypeDesc.func #[69, 114] #[] Bool.false) := ⟨Tryd.underlying143⟩
instance : ZeroOf Tryd.prog 143 (Go.Value.nilFunc) := ⟨Tryd.zeroValue143⟩
instance : NonAgg Tryd.prog 144 := ⟨Tryd.isAgg144⟩
instance : SizeOf Tryd.prog 144 1 := ⟨Tryd.sizeOf144⟩
instance : Und Tryd.prog 144 (Go.TypeDesc.tuple #[69, 9]) := ⟨Tryd.underlying144⟩
instance : ZeroOf Tryd.prog 144 (Go.Value.tuple #[Go.Value.slice Option.none 0 0, Go.Value.string { data := #[] }]) := ⟨Tryd.zeroValue144⟩
instance : NonAgg Tryd.prog 145 := ⟨Tryd.isAgg145⟩
instance : SizeOf Tryd.prog 145 1 := ⟨Tryd.sizeOf145⟩
instance : Und Tryd.prog 145 (Go.TypeDesc.func #[69, 114, 3, 4, 4] #[69, 9] Bool.false) := ⟨Tryd.underlying145⟩
instance : ZeroOf Tryd.prog 145 (Go.Value.nilFunc) := ⟨Tryd.zeroValue145⟩
instance : Body Tryd.prog 146 := ⟨Tryd.call146⟩
instance : NonAgg Tryd.prog 146 := ⟨Tryd.isAgg146⟩
instance : SizeOf Tryd.prog 146 1 := ⟨Tryd.sizeOf146⟩
instance : Und Tryd.prog 146 (Go.TypeDesc.int Go.IntKind.i64) := ⟨Tryd.underlying146⟩
instance : ZeroOf Tryd.prog 146 (Go.Value.int Go.IntKind.i64 0) := ⟨Tryd.zeroValue146⟩
instance : NonAgg Tryd.prog 147 := ⟨Tryd.isAgg147⟩
instance : SizeOf Tryd.prog 147 1 := ⟨Tryd.sizeOf147⟩
instance : Und Tryd.prog 147 (Go.TypeDesc.tuple #[2, 76]) := ⟨Tryd.underlying147⟩
instance : ZeroOf Tryd.prog 147 (Go.Value.tuple #[Go.Value.int Go.IntKind.i64 0, Go.Value.nilIface]) := ⟨Tryd.zeroValue147⟩
instance : NonAgg Tryd.prog 148 := ⟨Tryd.isAgg148⟩
instance : SizeOf Tryd.prog 148 1 := ⟨Tryd.sizeOf148⟩
instance : Und Tryd.prog 148 (Go.TypeDesc.func #[9, 3, 3] #[2, 76] Bool.false) := ⟨Tryd.underlying148⟩
instance : ZeroOf Tryd.prog 148 (Go.Value.nilFunc) := ⟨Tryd.zeroValue148⟩
instance : NonAgg Tryd.prog 149 := ⟨Tryd.isAgg149⟩
instance : SizeOf Tryd.prog 149 1 := ⟨Tryd.sizeOf149⟩
instance : Und Tryd.prog 149 (Go.TypeDesc.pointer 161) := ⟨Tryd.underlying149⟩
instance : ZeroOf Tryd.prog 149 (Go.Value.pointer Option.none) := ⟨Tryd.zeroValue149⟩
instance : NonAgg Tryd.prog 150 := ⟨Tryd.isAgg150⟩
instance : SizeOf Tryd.prog 150 1 := ⟨Tryd.sizeOf150⟩
instance : Und Tryd.prog 150 (Go.TypeDesc.func #[9, 9] #[149] Bool.false) := ⟨Tryd.underlying150⟩
instance : ZeroOf Tryd.prog 150 (Go.Value.nilFunc) := ⟨Tryd.zeroValue150⟩
instance : NonAgg Tryd.prog 151 := ⟨Tryd.isAgg151⟩
instance : SizeOf Tryd.prog 151 1 := ⟨Tryd.sizeOf151⟩
instance : Und Tryd.prog 151 (Go.TypeDesc.func #[9, 9, 3] #[149] Bool.false) := ⟨Tryd.underlying151⟩
instance : ZeroOf Tryd.prog 151 (Go.Value.nilFunc) := ⟨Tryd.zeroValue151⟩
instance : NonAgg Tryd.prog 152 := ⟨Tryd.isAgg152⟩
instance : SizeOf Tryd.prog 152 1 := ⟨Tryd.sizeOf152⟩
instance : Und Tryd.prog 152 (Go.TypeDesc.func #[9, 21] #[3] Bool.false) := ⟨Tryd.underlying152⟩
instance : ZeroOf Tryd.prog 152 (Go.Value.nilFunc) := ⟨Tryd.zeroValue152⟩
instance : NonAgg Tryd.prog 153 := ⟨Tryd.isAgg153⟩
instance : SizeOf Tryd.prog 153 1 := ⟨Tryd.sizeOf153⟩
instance : Und Tryd.prog 153 (Go.TypeDesc.func #[4] #[3] Bool.false) := ⟨Tryd.underlying153⟩
instance : ZeroOf Tryd.prog 153 (Go.Value.nilFunc) := ⟨Tryd.zeroValue153⟩
instance : IsAggT Tryd.prog 154 := ⟨Tryd.isAgg154⟩
instance : SizeOf Tryd.prog 154 20 := ⟨Tryd.sizeOf154⟩
instance : Und Tryd.prog 154 (Go.TypeDesc.array 20 114) := ⟨Tryd.underlying154⟩
instance : ZeroOf Tryd.prog 154 (Go.Value.agg #[Go.Value.int Go.IntKind.u64 0, Go.Value.int Go.IntKind.u64 0, Go.Value.int Go.IntKind.u64 0, Go.Value.int Go.IntKind.u64 0, Go.Value.int Go.IntKind.u64 0, Go.Value.int Go.IntKind.u64 0, Go.Value.int Go.IntKind.u64 0, Go.Value.int Go.IntKind.u64 0, Go.Value.int Go.IntKind.u64 0, Go.Value.int Go.IntKind.u64 0, Go.Value.int Go.IntKind.u64 0, Go.Value.int Go.IntKind.u64 0, Go.Value.int Go.IntKind.u64 0, Go.Value.int Go.IntKind.u64 0, Go.Value.int Go.IntKind.u64 0, Go.Value.int Go.IntKind.u64 0, Go.Value.int Go.IntKind.u64 0, Go.Value.int Go.IntKind.u64 0, Go.Value.int Go.IntKind.u64 0, Go.Value.int Go.IntKind.u64 0]) := ⟨Tryd.zeroValue154⟩
instance : IsAggT Tryd.prog 155 := ⟨Tryd.isAgg155⟩
instance : SizeOf Tryd.prog 155 65 := ⟨Tryd.sizeOf155⟩
instance : Und Tryd.prog 155 (Go.TypeDesc.array 65 5) := ⟨Tryd.underlying155⟩
instance : ZeroOf Tryd.prog 155 (Go.Value.agg Go.Proofs.Tryd.zeroCells155) := ⟨Tryd.zeroValue155⟩
instance : NonAgg Tryd.prog 156 := ⟨Tryd.isAgg156⟩
instance : SizeOf Tryd.prog 156 1 := ⟨Tryd.sizeOf156⟩
instance : Und Tryd.prog 156 (Go.TypeDesc.func #[3] #[4] Bool.false) := ⟨Tryd.underlying156⟩
instance : ZeroOf Tryd.prog 156 (Go.Value.nilFunc) := ⟨Tryd.zeroValue156⟩
instance : NonAgg Tryd.prog 157 := ⟨Tryd.isAgg157⟩
instance : SizeOf Tryd.prog 157 1 := ⟨Tryd.sizeOf157⟩
instance : Und Tryd.prog 157 (Go.TypeDesc.func #[70] #[3] Bool.false) := ⟨Tryd.underlying157⟩
instance : ZeroOf Tryd.prog 157 (Go.Value.nilFunc) := ⟨Tryd.zeroValue157⟩
instance : NonAgg Tryd.prog 158 := ⟨Tryd.isAgg158⟩
instance : SizeOf Tryd.prog 158 1 := ⟨Tryd.sizeOf158⟩
instance : Und Tryd.prog 158 (Go.TypeDesc.tuple #[114, 76]) := ⟨Tryd.underlying158⟩
instance : ZeroOf Tryd.prog 158 (Go.Value.tuple #[Go.Value.int Go.IntKind.u64 0, Go.Value.nilIface]) := ⟨Tryd.zeroValue158⟩
instance : NonAgg Tryd.prog 159 := ⟨Tryd.isAgg159⟩
instance : SizeOf Tryd.prog 159 1 := ⟨Tryd.sizeOf159⟩
instance : Und Tryd.prog 159 (Go.TypeDesc.func #[9, 3, 3] #[114, 76] Bool.false) := ⟨Tryd.underlying159⟩
instance : ZeroOf Tryd.prog 159 (Go.Value.nilFunc) := ⟨Tryd.zeroValue159⟩
instance : IsAggT Tryd.prog 160 := ⟨Tryd.isAgg160⟩
instance : SizeOf Tryd.prog 160 3 := ⟨Tryd.sizeOf160⟩
instance : Und Tryd.prog 160 (Go.TypeDesc.struct #[{ name := "Func", type := 9, offset := 0, embedded := Bool.false, tag := "", pkgPath := "", byteOffset := 0 }, { name := "Num", type := 9, offset := 1, embedded := Bool.false, tag := "", pkgPath := "", byteOffset := 16 }, { name := "Err", type := 76, offset := 2, embedded := Bool.false, tag := "", pkgPath := "", byteOffset := 32 }]) := ⟨Tryd.underlying160⟩
instance : ZeroOf Tryd.prog 160 (Go.Value.agg #[Go.Value.string { data := #[] }, Go.Value.string { data := #[] }, Go.Value.nilIface]) := ⟨Tryd.zeroValue160⟩
instance : IsAggT Tryd.prog 161 := ⟨Tryd.isAgg161⟩
instance : SizeOf Tryd.prog 161 3 := ⟨Tryd.sizeOf161⟩
instance : Und Tryd.prog 161 (Go.TypeDesc.struct #[{ name := "Func", type := 9, offset := 0, embedded := Bool.false, tag := "", pkgPath := "", byteOffset := 0 }, { name := "Num", type := 9, offset := 1, embedded := Bool.false, tag := "", pkgPath := "", byteOffset := 16 }, { name := "Err", type := 76, offset := 2, embedded := Bool.false, tag := "", pkgPath := "", byteOffset := 32 }]) := ⟨Tryd.underlying161⟩
instance : ZeroOf Tryd.prog 161 (Go.Value.agg #[Go.Value.string { data := #[] }, Go.Value.string { data := #[] }, Go.Value.nilIface]) := ⟨Tryd.zeroValue161⟩
instance : NonAgg Tryd.prog 162 := ⟨Tryd.isAgg162⟩
instance : SizeOf Tryd.prog 162 1 := ⟨Tryd.sizeOf162⟩
instance : Und Tryd.prog 162 (Go.TypeDesc.func #[9] #[76] Bool.false) := ⟨Tryd.underlying162⟩
instance : ZeroOf Tryd.prog 162 (Go.Value.nilFunc) := ⟨Tryd.zeroValue162⟩
instance : NonAgg Tryd.prog 163 := ⟨Tryd.isAgg163⟩
instance : SizeOf Tryd.prog 163 1 := ⟨Tryd.sizeOf163⟩
instance : Und Tryd.prog 163 (Go.TypeDesc.func #[21] #[4] Bool.false) := ⟨Tryd.underlying163⟩
instance : ZeroOf Tryd.prog 163 (Go.Value.nilFunc) := ⟨Tryd.zeroValue163⟩
instance : NonAgg Tryd.prog 164 := ⟨Tryd.isAgg164⟩
instance : SizeOf Tryd.prog 164 1 := ⟨Tryd.sizeOf164⟩
instance : Und Tryd.prog 164 (Go.TypeDesc.func #[134] #[3] Bool.false) := ⟨Tryd.underlying164⟩
instance : ZeroOf Tryd.prog 164 (Go.Value.nilFunc) := ⟨Tryd.zeroValue164⟩
instance : NonAgg Tryd.prog 165 := ⟨Tryd.isAgg165⟩
instance : SizeOf Tryd.prog 165 1 := ⟨Tryd.sizeOf165⟩
instance : Und Tryd.prog 165 (Go.TypeDesc.func #[5] #[5] Bool.false) := ⟨Tryd.underlying165⟩
instance : ZeroOf Tryd.prog 165 (Go.Value.nilFunc) := ⟨Tryd.zeroValue165⟩
instance : NonAgg Tryd.prog 166 := ⟨Tryd.isAgg166⟩
instance : SizeOf Tryd.prog 166 1 := ⟨Tryd.sizeOf166⟩
instance : Und Tryd.prog 166 (Go.TypeDesc.pointer 168) := ⟨Tryd.underlying166⟩
instance : ZeroOf Tryd.prog 166 (Go.Value.pointer Option.none) := ⟨Tryd.zeroValue166⟩
instance : IsAggT Tryd.prog 167 := ⟨Tryd.isAgg167⟩
instance : SizeOf Tryd.prog 167 1 := ⟨Tryd.sizeOf167⟩
instance : Und Tryd.prog 167 (Go.TypeDesc.struct #[{ name := "s", type := 9, offset := 0, embedded := Bool.false, tag := "", pkgPath := "errors", byteOffset := 0 }]) := ⟨Tryd.underlying167⟩
instance : ZeroOf Tryd.prog 167 (Go.Value.agg #[Go.Value.string { data := #[] }]) := ⟨Tryd.zeroValue167⟩
instance : IsAggT Tryd.prog 168 := ⟨Tryd.isAgg168⟩
instance : SizeOf Tryd.prog 168 1 := ⟨Tryd.sizeOf168⟩
instance : Und Tryd.prog 168 (Go.TypeDesc.struct #[{ name := "s", type := 9, offset := 0, embedded := Bool.false, tag := "", pkgPath := "errors", byteOffset := 0 }]) := ⟨Tryd.underlying168⟩
instance : ZeroOf Tryd.prog 168 (Go.Value.agg #[Go.Value.string { data := #[] }]) := ⟨Tryd.zeroValue168⟩
instance : IsAggT Tryd.prog 169 := ⟨Tryd.isAgg169⟩
instance : SizeOf Tryd.prog 169 32 := ⟨Tryd.sizeOf169⟩
instance : Und Tryd.prog 169 (Go.TypeDesc.array 32 5) := ⟨Tryd.underlying169⟩
instance : ZeroOf Tryd.prog 169 (Go.Value.agg #[Go.Value.int Go.IntKind.u8 0, Go.Value.int Go.IntKind.u8 0, Go.Value.int Go.IntKind.u8 0, Go.Value.int Go.IntKind.u8 0, Go.Value.int Go.IntKind.u8 0, Go.Value.int Go.IntKind.u8 0, Go.Value.int Go.IntKind.u8 0, Go.Value.int Go.IntKind.u8 0, Go.Value.int Go.IntKind.u8 0, Go.Value.int Go.IntKind.u8 0, Go.Value.int Go.IntKind.u8 0, Go.Value.int Go.IntKind.u8 0, Go.Value.int Go.IntKind.u8 0, Go.Value.int Go.IntKind.u8 0, Go.Value.int Go.IntKind.u8 0, Go.Value.int Go.IntKind.u8 0, Go.Value.int Go.IntKind.u8 0, Go.Value.int Go.IntKind.u8 0, Go.Value.int Go.IntKind.u8 0, Go.Value.int Go.IntKind.u8 0, Go.Value.int Go.IntKind.u8 0, Go.Value.int Go.IntKind.u8 0, Go.Value.int Go.IntKind.u8 0, Go.Value.int Go.IntKind.u8 0, Go.Value.int Go.IntKind.u8 0, Go.Value.int Go.IntKind.u8 0, Go.Value.int Go.IntKind.u8 0, Go.Value.int Go.IntKind.u8 0, Go.Value.int Go.IntKind.u8 0, Go.Value.int Go.IntKind.u8 0, Go.Value.int Go.IntKind.u8 0, Go.Value.int Go.IntKind.u8 0]) := ⟨Tryd.zeroValue169⟩
instance : IsAggT Tryd.prog 170 := ⟨Tryd.isAgg170⟩
instance : SizeOf Tryd.prog 170 64 := ⟨Tryd.sizeOf170⟩
instance : Und Tryd.prog 170 (Go.TypeDesc.array 64 5) := ⟨Tryd.underlying170⟩
instance : ZeroOf Tryd.prog 170 (Go.Value.agg #[Go.Value.int Go.IntKind.u8 0, Go.Value.int Go.IntKind.u8 0, Go.Value.int Go.IntKind.u8 0, Go.Value.int Go.IntKind.u8 0, Go.Value.int Go.IntKind.u8 0, Go.Value.int Go.IntKind.u8 0, Go.Value.int Go.IntKind.u8 0, Go.Value.int Go.IntKind.u8 0, Go.Value.int Go.IntKind.u8 0, Go.Value.int Go.IntKind.u8 0, Go.Value.int Go.IntKind.u8 0, Go.Value.int Go.IntKind.u8 0, Go.Value.int Go.IntKind.u8 0, Go.Value.int Go.IntKind.u8 0, Go.Value.int Go.IntKind.u8 0, Go.Value.int Go.IntKind.u8 0, Go.Value.int Go.IntKind.u8 0, Go.Value.int Go.IntKind.u8 0, Go.Value.int Go.IntKind.u8 0, Go.Value.int Go.IntKind.u8 0, Go.Value.int Go.IntKind.u8 0, Go.Value.int Go.IntKind.u8 0, Go.Value.int Go.IntKind.u8 0, Go.Value.int Go.IntKind.u8 0, Go.Value.int Go.IntKind.u8 0, Go.Value.int Go.IntKind.u8 0, Go.Value.int Go.IntKind.u8 0, Go.Value.int Go.IntKind.u8 0, Go.Value.int Go.IntKind.u8 0, Go.Value.int Go.IntKind.u8 0, Go.Value.int Go.IntKind.u8 0, Go.Value.int Go.IntKind.u8 0, Go.Value.int Go.IntKind.u8 0, Go.Value.int Go.IntKind.u8 0, Go.Value.int Go.IntKind.u8 0, Go.Value.int Go.IntKind.u8 0, Go.Value.int Go.IntKind.u8 0, Go.Value.int Go.IntKind.u8 0, Go.Value.int Go.IntKind.u8 0, Go.Value.int Go.IntKind.u8 0, Go.Value.int Go.IntKind.u8 0, Go.Value.int Go.IntKind.u8 0, Go.Value.int Go.IntKind.u8 0, Go.Value.int Go.IntKind.u8 0, Go.Value.int Go.IntKind.u8 0, Go.Value.int Go.IntKind.u8 0, Go.Value.int Go.IntKind.u8 0, Go.Value.int Go.IntKind.u8 0, Go.Value.int Go.IntKind.u8 0, Go.Value.int Go.IntKind.u8 0, Go.Value.int Go.IntKind.u8 0, Go.Value.int Go.IntKind.u8 0, Go.Value.int Go.IntKind.u8 0, Go.Value.int Go.IntKind.u8 0, Go.Value.int Go.IntKind.u8 0, Go.Value.int Go.IntKind.u8 0, Go.Value.int Go.IntKind.u8 0, Go.Value.int Go.IntKind.u8 0, Go.Value.int Go.IntKind.u8 0, Go.Value.int Go.IntKind.u8 0, Go.Value.int Go.IntKind.u8 0, Go.Value.int Go.IntKind.u8 0, Go.Value.int Go.IntKind.u8 0, Go.Value.int Go.IntKind.u8 0]) := ⟨Tryd.zeroValue170⟩
instance : IsAggT Tryd.prog 171 := ⟨Tryd.isAgg171⟩
instance : SizeOf Tryd.prog 171 4 := ⟨Tryd.sizeOf171⟩
instance : Und Tryd.prog 171 (Go.TypeDesc.struct #[{ name := "_interface", type := 17, offset := 0, embedded := Bool.false, tag := "", pkgPath := "runtime", byteOffset := 0 }, { name := "concrete", type := 17, offset := 1, embedded := Bool.false, tag := "", pkgPath := "runtime", byteOffset := 8 }, { name := "asserted", type := 17, offset := 2, embedded := Bool.false, tag := "", pkgPath := "runtime", byteOffset := 16 }, { name := "missingMethod", type := 9, offset := 3, embedded := Bool.false, tag := "", pkgPath := "runtime", byteOffset := 24 }]) := ⟨Tryd.underlying171⟩
instance : ZeroOf Tryd.prog 171 (Go.Value.agg #[Go.Value.pointer Option.none, Go.Value.pointer Option.none, Go.Value.pointer Option.none, Go.Value.string { data := #[] }]) := ⟨Tryd.zeroValue171⟩
instance : IsAggT Tryd.prog 172 := ⟨Tryd.isAgg172⟩
instance : SizeOf Tryd.prog 172 4 := ⟨Tryd.sizeOf172⟩
instance : Und Tryd.prog 172 (Go.TypeDesc.struct #[{ name := "_interface", type := 17, offset := 0, embedded := Bool.false, tag := "", pkgPath := "runtime", byteOffset := 0 }, { name := "concrete", type := 17, offset := 1, embedded := Bool.false, tag := "", pkgPath := "runtime", byteOffset := 8 }, { name := "asserted", type := 17, offset := 2, embedded := Bool.false, tag := "", pkgPath := "runtime", byteOffset := 16 }, { name := "missingMethod", type := 9, offset := 3, embedded := Bool.false, tag := "", pkgPath := "runtime", byteOffset := 24 }]) := ⟨Tryd.underlying172⟩
instance : ZeroOf Tryd.prog 172 (Go.Value.agg #[Go.Value.pointer Option.none, Go.Value.pointer Option.none, Go.Value.pointer Option.none, Go.Value.string { data := #[] }]) := ⟨Tryd.zeroValue172⟩
instance : IsAggT Tryd.prog 173 := ⟨Tryd.isAgg173⟩
instance : SizeOf Tryd.prog 173 0 := ⟨Tryd.sizeOf173⟩
instance : Und Tryd.prog 173 (Go.TypeDesc.array 0 16) := ⟨Tryd.underlying173⟩
instance : ZeroOf Tryd.prog 173 (Go.Value.agg #[]) := ⟨Tryd.zeroValue173⟩
instance : IsAggT Tryd.prog 174 := ⟨Tryd.isAgg174⟩
instance : SizeOf Tryd.prog 174 0 := ⟨Tryd.sizeOf174⟩
instance : Und Tryd.prog 174 (Go.TypeDesc.struct #[{ name := "_", type := 173, offset := 0, embedded := Bool.false, tag := "", pkgPath := "runtime", byteOffset := 0 }]) := ⟨Tryd.underlying174⟩
instance : ZeroOf Tryd.prog 174 (Go.Value.agg #[]) := ⟨Tryd.zeroValue174⟩
instance : IsAggT Tryd.prog 175 := ⟨Tryd.isAgg175⟩
instance : SizeOf Tryd.prog 175 0 := ⟨Tryd.sizeOf175⟩
instance : Und Tryd.prog 175 (Go.TypeDesc.struct #[{ name := "_", type := 173, offset := 0, embedded := Bool.false, tag := "", pkgPath := "runtime", byteOffset := 0 }]) := ⟨Tryd.underlying175⟩
instance : ZeroOf Tryd.prog 175 (Go.Value.agg #[]) := ⟨Tryd.zeroValue175⟩
instance : NonAgg Tryd.prog 176 := ⟨Tryd.isAgg176⟩
instance : SizeOf Tryd.prog 176 1 := ⟨Tryd.sizeOf176⟩
instance : Und Tryd.prog 176 (Go.TypeDesc.func #[] #[3] Bool.false) := ⟨Tryd.underlying176⟩
instance : ZeroOf Tryd.prog 176 (Go.Value.nilFunc) := ⟨Tryd.zeroValue176⟩
instance : NonAgg Tryd.prog 177 := ⟨Tryd.isAgg177⟩
instance : SizeOf Tryd.prog 177 1 := ⟨Tryd.sizeOf177⟩
instance : Und Tryd.prog 177 (Go.TypeDesc.int Go.IntKind.u8) := ⟨Tryd.underlying177⟩
instance : ZeroOf Tryd.prog 177 (Go.Value.int Go.IntKind.u8 0) := ⟨Tryd.zeroValue177⟩
instance : NonAgg Tryd.prog 178 := ⟨Tryd.isAgg178⟩
instance : SizeOf Tryd.prog 178 1 := ⟨Tryd.sizeOf178⟩
instance : Und Tryd.prog 178 (Go.TypeDesc.int Go.IntKind.u8) := ⟨Tryd.underlying178⟩
instance : ZeroOf Tryd.prog 178 (Go.Value.int Go.IntKind.u8 0) := ⟨Tryd.zeroValue178⟩
instance : NonAgg Tryd.prog 179 := ⟨Tryd.isAgg179⟩
instance : SizeOf Tryd.prog 179 1 := ⟨Tryd.sizeOf179⟩
instance : Und Tryd.prog 179 (Go.TypeDesc.func #[116, 116] #[4] Bool.false) := ⟨Tryd.underlying179⟩
instance : ZeroOf Tryd.prog 179 (Go.Value.nilFunc) := ⟨Tryd.zeroValue179⟩
instance : NonAgg Tryd.prog 180 := ⟨Tryd.isAgg180⟩
instance : SizeOf Tryd.prog 180 1 := ⟨Tryd.sizeOf180⟩
instance : Und Tryd.prog 180 (Go.TypeDesc.int Go.IntKind.i32) := ⟨Tryd.underlying180⟩
instance : ZeroOf Tryd.prog 180 (Go.Value.int Go.IntKind.i32 0) := ⟨Tryd.zeroValue180⟩
instance : NonAgg Tryd.prog 181 := ⟨Tryd.isAgg181⟩
instance : SizeOf Tryd.prog 181 1 := ⟨Tryd.sizeOf181⟩
instance : Und Tryd.prog 181 (Go.TypeDesc.int Go.IntKind.i32) := ⟨Tryd.underlying181⟩
instance : ZeroOf Tryd.prog 181 (Go.Value.int Go.IntKind.i32 0) := ⟨Tryd.zeroValue181⟩
instance : IsAggT Tryd.prog 182 := ⟨Tryd.isAgg182⟩
instance : SizeOf Tryd.prog 182 11 := ⟨Tryd.sizeOf182⟩
instance : Und Tryd.prog 182 (Go.TypeDesc.struct #[{ name := "Size_", type := 12, offset := 0, embedded := Bool.false, tag := "", pkgPath := "", byteOffset := 0 }, { name := "PtrBytes", type := 12, offset := 1, embedded := Bool.false, tag := "", pkgPath := "", byteOffset := 8 }, { name := "Hash", type := 134, offset := 2, embedded := Bool.false, tag := "", pkgPath := "", byteOffset := 16 }, { name := "TFlag", type := 177, offset := 3, embedded := Bool.false, tag := "", pkgPath := "", byteOffset := 20 }, { name := "Align_", type := 5, offset := 4, embedded := Bool.false, tag := "", pkgPath := "", byteOffset := 21 }, { name := "FieldAlign_", type := 5, offset := 5, embedded := Bool.false, tag := "", pkgPath := "", byteOffset := 22 }, { name := "Kind_", type := 178, offset := 6, embedded := Bool.false, tag := "", pkgPath := "", byteOffset := 23 }, { name := "Equal", type := 179, offset := 7, embedded := Bool.false, tag := "", pkgPath := "", byteOffset := 24 }, { name := "GCData", type := 105, offset := 8, embedded := Bool.false, tag := "", pkgPath := "", byteOffset := 32 }, { name := "Str", type := 180, offset := 9, embedded := Bool.false, tag := "", pkgPath := "", byteOffset := 40 }, { name := "PtrToThis", type := 181, offset := 10, embedded := Bool.false, tag := "", pkgPath := "", byteOffset := 44 }]) := ⟨Tryd.underlying182⟩
instance : ZeroOf Tryd.prog 182 (Go.Value.agg #[Go.Value.int Go.IntKind.u64 0, Go.Value.int Go.IntKind.u64 0, Go.Value.int Go.IntKind.u32 0, Go.Value.int Go.IntKind.u8 0, Go.Value.int Go.IntKind.u8 0, Go.Value.int Go.IntKind.u8 0, Go.Value.int Go.IntKind.u8 0, Go.Value.nilFunc, Go.Value.pointer Option.none, Go.Value.int Go.IntKind.i32 0, Go.Value.int Go.IntKind.i32 0]) := ⟨Tryd.zeroValue182⟩
instance : IsAggT Tryd.prog 183 := ⟨Tryd.isAgg183⟩
instance : SizeOf Tryd.prog 183 11 := ⟨Tryd.sizeOf183⟩
instance : Und Tryd.prog 183 (Go.TypeDesc.struct #[{ name := "Size_", type := 12, offset := 0, embedded := Bool.false, tag := "", pkgPath := "", byteOffset := 0 }, { name := "PtrBytes", type := 12, offset := 1, embedded := Bool.false, tag := "", pkgPath := "", byteOffset := 8 }, { name := "Hash", type := 134, offset := 2, embedded := Bool.false, tag := "", pkgPath := "", byteOffset := 16 }, { name := "TFlag", type := 177, offset := 3, embedded := Bool.false, tag := "", pkgPath := "", byteOffset := 20 }, { name := "Align_", type := 5, offset := 4, embedded := Bool.false, tag := "", pkgPath := "", byteOffset := 21 }, { name := "FieldAlign_", type := 5, offset := 5, embedded := Bool.false, tag := "", pkgPath := "", byteOffset := 22 }, { name := "Kind_", type := 178, offset := 6, embedded := Bool.false, tag := "", pkgPath := "", byteOffset := 23 }, { name := "Equal", type := 179, offset := 7, embedded := Bool.false, tag := "", pkgPath := "", byteOffset := 24 }, { name := "GCData", type := 105, offset := 8, embedded := Bool.false, tag := "", pkgPath := "", byteOffset := 32 }, { name := "Str", type := 180, offset := 9, embedded := Bool.false, tag := "", pkgPath := "", byteOffset := 40 }, { name := "PtrToThis", type := 181, offset := 10, embedded := Bool.false, tag := "", pkgPath := "", byteOffset := 44 }]) := ⟨Tryd.underlying183⟩
instance : ZeroOf Tryd.prog 183 (Go.Value.agg #[Go.Value.int Go.IntKind.u64 0, Go.Value.int Go.IntKind.u64 0, Go.Value.int Go.IntKind.u32 0, Go.Value.int Go.IntKind.u8 0, Go.Value.int Go.IntKind.u8 0, Go.Value.int Go.IntKind.u8 0, Go.Value.int Go.IntKind.u8 0, Go.Value.nilFunc, Go.Value.pointer Option.none, Go.Value.int Go.IntKind.i32 0, Go.Value.int Go.IntKind.i32 0]) := ⟨Tryd.zeroValue183⟩
instance : Fld Tryd.prog 7 0 0 := Fld.of (z := 0) (t := 2) Tryd.underlying7 rfl Tryd.sizeOf2
instance : Fld Tryd.prog 7 1 1 := Fld.of (z := 0) (t := 3) Tryd.underlying7 rfl Tryd.sizeOf3
instance : Fld Tryd.prog 7 2 2 := Fld.of (z := 0) (t := 4) Tryd.underlying7 rfl Tryd.sizeOf4
instance : Fld Tryd.prog 7 3 3 := Fld.of (z := 0) (t := 6) Tryd.underlying7 rfl Tryd.sizeOf6
instance : Places Tryd.prog 7 [(0, 1), (1, 1), (2, 1), (3, 1)] := ⟨_, Tryd.underlying7, fun w => by simp [Tryd.sizeOf2, Tryd.sizeOf3, Tryd.sizeOf4, Tryd.sizeOf6]⟩
instance : Fld Tryd.prog 8 0 0 := Fld.of (z := 0) (t := 2) Tryd.underlying8 rfl Tryd.sizeOf2
instance : Fld Tryd.prog 8 1 1 := Fld.of (z := 0) (t := 3) Tryd.underlying8 rfl Tryd.sizeOf3
instance : Fld Tryd.prog 8 2 2 := Fld.of (z := 0) (t := 4) Tryd.underlying8 rfl Tryd.sizeOf4
instance : Fld Tryd.prog 8 3 3 := Fld.of (z := 0) (t := 6) Tryd.underlying8 rfl Tryd.sizeOf6
instance : Places Tryd.prog 8 [(0, 1), (1, 1), (2, 1), (3, 1)] := ⟨_, Tryd.underlying8, fun w => by simp [Tryd.sizeOf2, Tryd.sizeOf3, Tryd.sizeOf4, Tryd.sizeOf6]⟩
instance : Fld Tryd.prog 13 0 0 := Fld.of (z := 0) (t := 9) Tryd.underlying13 rfl Tryd.sizeOf9
instance : Fld Tryd.prog 13 1 1 := Fld.of (z := 0) (t := 12) Tryd.underlying13 rfl Tryd.sizeOf12
instance : Places Tryd.prog 13 [(0, 1), (1, 1)] := ⟨_, Tryd.underlying13, fun w => by simp [Tryd.sizeOf12, Tryd.sizeOf9]⟩
instance : Fld Tryd.prog 14 0 0 := Fld.of (z := 0) (t := 9) Tryd.underlying14 rfl Tryd.sizeOf9
instance : Fld Tryd.prog 14 1 1 := Fld.of (z := 0) (t := 12) Tryd.underlying14 rfl Tryd.sizeOf12
instance : Places Tryd.prog 14 [(0, 1), (1, 1)] := ⟨_, Tryd.underlying14, fun w => by simp [Tryd.sizeOf12, Tryd.sizeOf9]⟩
instance : Fld Tryd.prog 18 0 0 := Fld.of (z := 0) (t := 17) Tryd.underlying18 rfl Tryd.sizeOf17
instance : Places Tryd.prog 18 [(0, 1)] := ⟨_, Tryd.underlying18, fun w => by simp [Tryd.sizeOf17]⟩
instance : Fld Tryd.prog 19 0 0 := Fld.of (z := 0) (t := 17) Tryd.underlying19 rfl Tryd.sizeOf17
instance : Places Tryd.prog 19 [(0, 1)] := ⟨_, Tryd.underlying19, fun w => by simp [Tryd.sizeOf17]⟩
instance : Fld Tryd.prog 22 0 0 := Fld.of (z := 0) (t := 3) Tryd.underlying22 rfl Tryd.sizeOf3
instance : Fld Tryd.prog 22 1 1 := Fld.of (z := 0) (t := 3) Tryd.underlying22 rfl Tryd.sizeOf3
instance : Fld Tryd.prog 22 2 2 := Fld.of (z := 0) (t := 3) Tryd.underlying22 rfl Tryd.sizeOf3
instance : Fld Tryd.prog 22 3 3 := Fld.of (z := 0) (t := 3) Tryd.underlying22 rfl Tryd.sizeOf3
instance : Fld Tryd.prog 22 4 4 := Fld.of (z := 0) (t := 3) Tryd.underlying22 rfl Tryd.sizeOf3
instance : Fld Tryd.prog 22 5 5 := Fld.of (z := 0) (t := 3) Tryd.underlying22 rfl Tryd.sizeOf3
instance : Fld Tryd.prog 22 6 6 := Fld.of (z := 0) (t := 3) Tryd.underlying22 rfl Tryd.sizeOf3
instance : Places Tryd.prog 22 [(0, 1), (1, 1), (2, 1), (3, 1), (4, 1), (5, 1), (6, 1)] := ⟨_, Tryd.underlying22, fun w => by simp [Tryd.sizeOf3]⟩
instance : Fld Tryd.prog 23 0 0 := Fld.of (z := 0) (t := 3) Tryd.underlying23 rfl Tryd.sizeOf3
instance : Fld Tryd.prog 23 1 1 := Fld.of (z := 0) (t := 3) Tryd.underlying23 rfl Tryd.sizeOf3
instance : Fld Tryd.prog 23 2 2 := Fld.of (z := 0) (t := 3) Tryd.underlying23 rfl Tryd.sizeOf3
instance : Fld Tryd.prog 23 3 3 := Fld.of (z := 0) (t := 3) Tryd.underlying23 rfl Tryd.sizeOf3
instance : Fld Tryd.prog 23 4 4 := Fld.of (z := 0) (t := 3) Tryd.underlying23 rfl Tryd.sizeOf3
instance : Fld Tryd.prog 23 5 5 := Fld.of (z := 0) (t := 3) Tryd.underlying23 rfl Tryd.sizeOf3
instance : Fld Tryd.prog 23 6 6 := Fld.of (z := 0) (t := 3) Tryd.underlying23 rfl Tryd.sizeOf3
instance : Places Tryd.prog 23 [(0, 1), (1, 1), (2, 1), (3, 1), (4, 1), (5, 1), (6, 1)] := ⟨_, Tryd.underlying23, fun w => by simp [Tryd.sizeOf3]⟩
instance : Fld Tryd.prog 25 0 0 := Fld.of (z := 6) (t := 23) Tryd.underlying25 rfl Tryd.sizeOf23
instance : Fld Tryd.prog 25 1 7 := Fld.of (z := 0) (t := 24) Tryd.underlying25 rfl Tryd.sizeOf24
instance : Places Tryd.prog 25 [(0, 7), (7, 1)] := ⟨_, Tryd.underlying25, fun w => by simp [Tryd.sizeOf23, Tryd.sizeOf24]⟩
instance : Fld Tryd.prog 26 0 0 := Fld.of (z := 6) (t := 23) Tryd.underlying26 rfl Tryd.sizeOf23
instance : Fld Tryd.prog 26 1 7 := Fld.of (z := 0) (t := 24) Tryd.underlying26 rfl Tryd.sizeOf24
instance : Places Tryd.prog 26 [(0, 7), (7, 1)] := ⟨_, Tryd.underlying26, fun w => by simp [Tryd.sizeOf23, Tryd.sizeOf24]⟩
instance : Fld Tryd.prog 41 0 0 := Fld.of (z := 0) (t := 9) Tryd.underlying41 rfl Tryd.sizeOf9
instance : Fld Tryd.prog 41 1 1 := Fld.of (z := 0) (t := 9) Tryd.underlying41 rfl Tryd.sizeOf9
instance : Places Tryd.prog 41 [(0, 1), (1, 1)] := ⟨_, Tryd.underlying41, fun w => by simp [Tryd.sizeOf9]⟩
instance : Fld Tryd.prog 42 0 0 := Fld.of (z := 0) (t := 9) Tryd.underlying42 rfl Tryd.sizeOf9
instance : Fld Tryd.prog 42 1 1 := Fld.of (z := 0) (t := 9) Tryd.underlying42 rfl Tryd.sizeOf9
instance : Places Tryd.prog 42 [(0, 1), (1, 1)] := ⟨_, Tryd.underlying42, fun w => by simp [Tryd.sizeOf9]⟩
instance : Fld Tryd.prog 43 0 0 := Fld.of (z := 0) (t := 3) Tryd.underlying43 rfl Tryd.sizeOf3
instance : Fld Tryd.prog 43 1 1 := Fld.of (z := 0) (t := 3) Tryd.underlying43 rfl Tryd.sizeOf3
instance : Fld Tryd.prog 43 2 2 := Fld.of (z := 0) (t := 9) Tryd.underlying43 rfl Tryd.sizeOf9
instance : Fld Tryd.prog 43 3 3 := Fld.of (z := 0) (t := 9) Tryd.underlying43 rfl Tryd.sizeOf9
instance : Fld Tryd.prog 43 4 4 := Fld.of (z := 1) (t := 42) Tryd.underlying43 rfl Tryd.sizeOf42
instance : Places Tryd.prog 43 [(0, 1), (1, 1), (2, 1), (3, 1), (4, 2)] := ⟨_, Tryd.underlying43, fun w => by simp [Tryd.sizeOf3, Tryd.sizeOf42, Tryd.sizeOf9]⟩
instance : Fld Tryd.prog 44 0 0 := Fld.of (z := 0) (t := 3) Tryd.underlying44 rfl Tryd.sizeOf3
instance : Fld Tryd.prog 44 1 1 := Fld.of (z := 0) (t := 3) Tryd.underlying44 rfl Tryd.sizeOf3
instance : Fld Tryd.prog 44 2 2 := Fld.of (z := 0) (t := 9) Tryd.underlying44 rfl Tryd.sizeOf9
instance : Fld Tryd.prog 44 3 3 := Fld.of (z := 0) (t := 9) Tryd.underlying44 rfl Tryd.sizeOf9
instance : Fld Tryd.prog 44 4 4 := Fld.of (z := 1) (t := 42) Tryd.underlying44 rfl Tryd.sizeOf42
instance : Places Tryd.prog 44 [(0, 1), (1, 1), (2, 1), (3, 1), (4, 2)] := ⟨_, Tryd.underlying44, fun w => by simp [Tryd.sizeOf3, Tryd.sizeOf42, Tryd.sizeOf9]⟩
instance : Fld Tryd.prog 45 0 0 := Fld.of (z := 0) (t := 3) Tryd.underlying45 rfl Tryd.sizeOf3
instance : Fld Tryd.prog 45 1 1 := Fld.of (z := 0) (t := 3) Tryd.underlying45 rfl Tryd.sizeOf3
instance : Fld Tryd.prog 45 2 2 := Fld.of (z := 5) (t := 44) Tryd.underlying45 rfl Tryd.sizeOf44
instance : Fld Tryd.prog 45 3 8 := Fld.of (z := 0) (t := 38) Tryd.underlying45 rfl Tryd.sizeOf38
instance : Places Tryd.prog 45 [(0, 1), (1, 1), (2, 6), (8, 1)] := ⟨_, Tryd.underlying45, fun w => by simp [Tryd.sizeOf3, Tryd.sizeOf38, Tryd.sizeOf44]⟩
instance : Fld Tryd.prog 46 0 0 := Fld.of (z := 0) (t := 3) Tryd.underlying46 rfl Tryd.sizeOf3
instance : Fld Tryd.prog 46 1 1 := Fld.of (z := 0) (t := 3) Tryd.underlying46 rfl Tryd.sizeOf3
instance : Fld Tryd.prog 46 2 2 := Fld.of (z := 5) (t := 44) Tryd.underlying46 rfl Tryd.sizeOf44
instance : Fld Tryd.prog 46 3 8 := Fld.of (z := 0) (t := 38) Tryd.underlying46 rfl Tryd.sizeOf38
instance : Places Tryd.prog 46 [(0, 1), (1, 1), (2, 6), (8, 1)] := ⟨_, Tryd.underlying46, fun w => by simp [Tryd.sizeOf3, Tryd.sizeOf38, Tryd.sizeOf44]⟩
instance : Fld Tryd.prog 54 0 0 := Fld.of (z := 7) (t := 26) Tryd.underlying54 rfl Tryd.sizeOf26
instance : Fld Tryd.prog 54 1 8 := Fld.of (z := 0) (t := 4) Tryd.underlying54 rfl Tryd.sizeOf4
instance : Places Tryd.prog 54 [(0, 8), (8, 1)] := ⟨_, Tryd.underlying54, fun w => by simp [Tryd.sizeOf26, Tryd.sizeOf4]⟩
instance : Fld Tryd.prog 55 0 0 := Fld.of (z := 7) (t := 26) Tryd.underlying55 rfl Tryd.sizeOf26
instance : Fld Tryd.prog 55 1 8 := Fld.of (z := 0) (t := 4) Tryd.underlying55 rfl Tryd.sizeOf4
instance : Places Tryd.prog 55 [(0, 8), (8, 1)] := ⟨_, Tryd.underlying55, fun w => by simp [Tryd.sizeOf26, Tryd.sizeOf4]⟩
instance : Fld Tryd.prog 62 0 0 := Fld.of (z := 0) (t := 9) Tryd.underlying62 rfl Tryd.sizeOf9
instance : Fld Tryd.prog 62 1 1 := Fld.of (z := 0) (t := 4) Tryd.underlying62 rfl Tryd.sizeOf4
instance : Places Tryd.prog 62 [(0, 1), (1, 1)] := ⟨_, Tryd.underlying62, fun w => by simp [Tryd.sizeOf4, Tryd.sizeOf9]⟩
instance : Fld Tryd.prog 63 0 0 := Fld.of (z := 0) (t := 9) Tryd.underlying63 rfl Tryd.sizeOf9
instance : Fld Tryd.prog 63 1 1 := Fld.of (z := 0) (t := 4) Tryd.underlying63 rfl Tryd.sizeOf4
instance : Places Tryd.prog 63 [(0, 1), (1, 1)] := ⟨_, Tryd.underlying63, fun w => by simp [Tryd.sizeOf4, Tryd.sizeOf9]⟩
instance : Fld Tryd.prog 72 0 0 := Fld.of (z := 0) (t := 71) Tryd.underlying72 rfl Tryd.sizeOf71
instance : Fld Tryd.prog 72 1 1 := Fld.of (z := 0) (t := 69) Tryd.underlying72 rfl Tryd.sizeOf69
instance : Places Tryd.prog 72 [(0, 1), (1, 1)] := ⟨_, Tryd.underlying72, fun w => by simp [Tryd.sizeOf69, Tryd.sizeOf71]⟩
instance : Fld Tryd.prog 73 0 0 := Fld.of (z := 0) (t := 71) Tryd.underlying73 rfl Tryd.sizeOf71
instance : Fld Tryd.prog 73 1 1 := Fld.of (z := 0) (t := 69) Tryd.underlying73 rfl Tryd.sizeOf69
instance : Places Tryd.prog 73 [(0, 1), (1, 1)] := ⟨_, Tryd.underlying73, fun w => by simp [Tryd.sizeOf69, Tryd.sizeOf71]⟩
instance : Fld Tryd.prog 87 0 0 := Fld.of (z := 0) (t := 86) Tryd.underlying87 rfl Tryd.sizeOf86
instance : Fld Tryd.prog 87 1 1 := Fld.of (z := 0) (t := 33) Tryd.underlying87 rfl Tryd.sizeOf33
instance : Fld Tryd.prog 87 2 2 := Fld.of (z := 0) (t := 38) Tryd.underlying87 rfl Tryd.sizeOf38
instance : Places Tryd.prog 87 [(0, 1), (1, 1), (2, 1)] := ⟨_, Tryd.underlying87, fun w => by simp [Tryd.sizeOf33, Tryd.sizeOf38, Tryd.sizeOf86]⟩
instance : Fld Tryd.prog 88 0 0 := Fld.of (z := 0) (t := 86) Tryd.underlying88 rfl Tryd.sizeOf86
instance : Fld Tryd.prog 88 1 1 := Fld.of (z := 0) (t := 33) Tryd.underlying88 rfl Tryd.sizeOf33
instance : Fld Tryd.prog 88 2 2 := Fld.of (z := 0) (t := 38) Tryd.underlying88 rfl Tryd.sizeOf38
instance : Places Tryd.prog 88 [(0, 1), (1, 1), (2, 1)] := ⟨_, Tryd.underlying88, fun w => by simp [Tryd.sizeOf33, Tryd.sizeOf38, Tryd.sizeOf86]⟩
instance : Fld Tryd.prog 95 0 0 := Fld.of (z := 0) (t := 9) Tryd.underlying95 rfl Tryd.sizeOf9
instance : Fld Tryd.prog 95 1 1 := Fld.of (z := 0) (t := 4) Tryd.underlying95 rfl Tryd.sizeOf4
instance : Places Tryd.prog 95 [(0, 1), (1, 1)] := ⟨_, Tryd.underlying95, fun w => by simp [Tryd.sizeOf4, Tryd.sizeOf9]⟩
instance : Fld Tryd.prog 96 0 0 := Fld.of (z := 0) (t := 9) Tryd.underlying96 rfl Tryd.sizeOf9
instance : Fld Tryd.prog 96 1 1 := Fld.of (z := 0) (t := 4) Tryd.underlying96 rfl Tryd.sizeOf4
instance : Places Tryd.prog 96 [(0, 1), (1, 1)] := ⟨_, Tryd.underlying96, fun w => by simp [Tryd.sizeOf4, Tryd.sizeOf9]⟩
instance : Fld Tryd.prog 138 0 0 := Fld.of (z := 0) (t := 5) Tryd.underlying138 rfl Tryd.sizeOf5
instance : Fld Tryd.prog 138 1 1 := Fld.of (z := 0) (t := 5) Tryd.underlying138 rfl Tryd.sizeOf5
instance : Places Tryd.prog 138 [(0, 1), (1, 1)] := ⟨_, Tryd.underlying138, fun w => by simp [Tryd.sizeOf5]⟩
instance : Fld Tryd.prog 139 0 0 := Fld.of (z := 0) (t := 5) Tryd.underlying139 rfl Tryd.sizeOf5
instance : Fld Tryd.prog 139 1 1 := Fld.of (z := 0) (t := 5) Tryd.underlying139 rfl Tryd.sizeOf5
instance : Places Tryd.prog 139 [(0, 1), (1, 1)] := ⟨_, Tryd.underlying139, fun w => by simp [Tryd.sizeOf5]⟩
instance : Fld Tryd.prog 160 0 0 := Fld.of (z := 0) (t := 9) Tryd.underlying160 rfl Tryd.sizeOf9
instance : Fld Tryd.prog 160 1 1 := Fld.of (z := 0) (t := 9) Tryd.underlying160 rfl Tryd.sizeOf9
instance : Fld Tryd.prog 160 2 2 := Fld.of (z := 0) (t := 76) Tryd.underlying160 rfl Tryd.sizeOf76
instance : Places Tryd.prog 160 [(0, 1), (1, 1), (2, 1)] := ⟨_, Tryd.underlying160, fun w => by simp [Tryd.sizeOf76, Tryd.sizeOf9]⟩
instance : Fld Tryd.prog 161 0 0 := Fld.of (z := 0) (t := 9) Tryd.underlying161 rfl Tryd.sizeOf9
instance : Fld Tryd.prog 161 1 1 := Fld.of (z := 0) (t := 9) Tryd.underlying161 rfl Tryd.sizeOf9
instance : Fld Tryd.prog 161 2 2 := Fld.of (z := 0) (t := 76) Tryd.underlying161 rfl Tryd.sizeOf76
instance : Places Tryd.prog 161 [(0, 1), (1, 1), (2, 1)] := ⟨_, Tryd.underlying161, fun w => by simp [Tryd.sizeOf76, Tryd.sizeOf9]⟩
instance : Fld Tryd.prog 167 0 0 := Fld.of (z := 0) (t := 9) Tryd.underlying167 rfl Tryd.sizeOf9
instance : Places Tryd.prog 167 [(0, 1)] := ⟨_, Tryd.underlying167, fun w => by simp [Tryd.sizeOf9]⟩
instance : Fld Tryd.prog 168 0 0 := Fld.of (z := 0) (t := 9) Tryd.underlying168 rfl Tryd.sizeOf9
instance : Places Tryd.prog 168 [(0, 1)] := ⟨_, Tryd.underlying168, fun w => by simp [Tryd.sizeOf9]⟩
instance : Fld Tryd.prog 171 0 0 := Fld.of (z := 0) (t := 17) Tryd.underlying171 rfl Tryd.sizeOf17
instance : Fld Tryd.prog 171 1 1 := Fld.of (z := 0) (t := 17) Tryd.underlying171 rfl Tryd.sizeOf17
instance : Fld Tryd.prog 171 2 2 := Fld.of (z := 0) (t := 17) Tryd.underlying171 rfl Tryd.sizeOf17
instance : Fld Tryd.prog 171 3 3 := Fld.of (z := 0) (t := 9) Tryd.underlying171 rfl Tryd.sizeOf9
instance : Places Tryd.prog 171 [(0, 1), (1, 1), (2, 1), (3, 1)] := ⟨_, Tryd.underlying171, fun w => by simp [Tryd.sizeOf17, Tryd.sizeOf9]⟩
instance : Fld Tryd.prog 172 0 0 := Fld.of (z := 0) (t := 17) Tryd.underlying172 rfl Tryd.sizeOf17
instance : Fld Tryd.prog 172 1 1 := Fld.of (z := 0) (t := 17) Tryd.underlying172 rfl Tryd.sizeOf17
instance : Fld Tryd.prog 172 2 2 := Fld.of (z := 0) (t := 17) Tryd.underlying172 rfl Tryd.sizeOf17
instance : Fld Tryd.prog 172 3 3 := Fld.of (z := 0) (t := 9) Tryd.underlying172 rfl Tryd.sizeOf9
instance : Places Tryd.prog 172 [(0, 1), (1, 1), (2, 1), (3, 1)] := ⟨_, Tryd.underlying172, fun w => by simp [Tryd.sizeOf17, Tryd.sizeOf9]⟩
instance : Places Tryd.prog 174 [(0, 0)] := ⟨_, Tryd.underlying174, fun w => by simp [Tryd.sizeOf173]⟩
instance : Places Tryd.prog 175 [(0, 0)] := ⟨_, Tryd.underlying175, fun w => by simp [Tryd.sizeOf173]⟩
instance : Fld Tryd.prog 182 0 0 := Fld.of (z := 0) (t := 12) Tryd.underlying182 rfl Tryd.sizeOf12
instance : Fld Tryd.prog 182 1 1 := Fld.of (z := 0) (t := 12) Tryd.underlying182 rfl Tryd.sizeOf12
instance : Fld Tryd.prog 182 2 2 := Fld.of (z := 0) (t := 134) Tryd.underlying182 rfl Tryd.sizeOf134
instance : Fld Tryd.prog 182 3 3 := Fld.of (z := 0) (t := 177) Tryd.underlying182 rfl Tryd.sizeOf177
instance : Fld Tryd.prog 182 4 4 := Fld.of (z := 0) (t := 5) Tryd.underlying182 rfl Tryd.sizeOf5
instance : Fld Tryd.prog 182 5 5 := Fld.of (z := 0) (t := 5) Tryd.underlying182 rfl Tryd.sizeOf5
instance : Fld Tryd.prog 182 6 6 := Fld.of (z := 0) (t := 178) Tryd.underlying182 rfl Tryd.sizeOf178
instance : Fld Tryd.prog 182 7 7 := Fld.of (z := 0) (t := 179) Tryd.underlying182 rfl Tryd.sizeOf179
instance : Fld Tryd.prog 182 8 8 := Fld.of (z := 0) (t := 105) Tryd.underlying182 rfl Tryd.sizeOf105
instance : Fld Tryd.prog 182 9 9 := Fld.of (z := 0) (t := 180) Tryd.underlying182 rfl Tryd.sizeOf180
instance : Fld Tryd.prog 182 10 10 := Fld.of (z := 0) (t := 181) Tryd.underlying182 rfl Tryd.sizeOf181
instance : Places Tryd.prog 182 [(0, 1), (1, 1), (2, 1), (3, 1), (4, 1), (5, 1), (6, 1), (7, 1), (8, 1), (9, 1), (10, 1)] := ⟨_, Tryd.underlying182, fun w => by simp [Tryd.sizeOf105, Tryd.sizeOf12, Tryd.sizeOf134, Tryd.sizeOf177, Tryd.sizeOf178, Tryd.sizeOf179, Tryd.sizeOf180, Tryd.sizeOf181, Tryd.sizeOf5]⟩
instance : Fld Tryd.prog 183 0 0 := Fld.of (z := 0) (t := 12) Tryd.underlying183 rfl Tryd.sizeOf12
instance : Fld Tryd.prog 183 1 1 := Fld.of (z := 0) (t := 12) Tryd.underlying183 rfl Tryd.sizeOf12
instance : Fld Tryd.prog 183 2 2 := Fld.of (z := 0) (t := 134) Tryd.underlying183 rfl Tryd.sizeOf134
instance : Fld Tryd.prog 183 3 3 := Fld.of (z := 0) (t := 177) Tryd.underlying183 rfl Tryd.sizeOf177
instance : Fld Tryd.prog 183 4 4 := Fld.of (z := 0) (t := 5) Tryd.underlying183 rfl Tryd.sizeOf5
instance : Fld Tryd.prog 183 5 5 := Fld.of (z := 0) (t := 5) Tryd.underlying183 rfl Tryd.sizeOf5
instance : Fld Tryd.prog 183 6 6 := Fld.of (z := 0) (t := 178) Tryd.underlying183 rfl Tryd.sizeOf178
instance : Fld Tryd.prog 183 7 7 := Fld.of (z := 0) (t := 179) Tryd.underlying183 rfl Tryd.sizeOf179
instance : Fld Tryd.prog 183 8 8 := Fld.of (z := 0) (t := 105) Tryd.underlying183 rfl Tryd.sizeOf105
instance : Fld Tryd.prog 183 9 9 := Fld.of (z := 0) (t := 180) Tryd.underlying183 rfl Tryd.sizeOf180
instance : Fld Tryd.prog 183 10 10 := Fld.of (z := 0) (t := 181) Tryd.underlying183 rfl Tryd.sizeOf181
instance : Places Tryd.prog 183 [(0, 1), (1, 1), (2, 1), (3, 1), (4, 1), (5, 1), (6, 1), (7, 1), (8, 1), (9, 1), (10, 1)] := ⟨_, Tryd.underlying183, fun w => by simp [Tryd.sizeOf105, Tryd.sizeOf12, Tryd.sizeOf134, Tryd.sizeOf177, Tryd.sizeOf178, Tryd.sizeOf179, Tryd.sizeOf180, Tryd.sizeOf181, Tryd.sizeOf5]⟩
instance : Elem Tryd.prog 24 46 9 120 (Go.Value.agg #[Go.Value.int Go.IntKind.i64 0, Go.Value.int Go.IntKind.i64 0, Go.Value.int Go.IntKind.i64 0, Go.Value.int Go.IntKind.i64 0, Go.Value.string { data := #[] }, Go.Value.string { data := #[] }, Go.Value.string { data := #[] }, Go.Value.string { data := #[] }, Go.Value.slice Option.none 0 0]) := ⟨Tryd.underlying24, by kernel_rfl⟩
instance : Elem Tryd.prog 33 9 1 16 (Go.Value.string { data := #[] }) := ⟨Tryd.underlying33, by kernel_rfl⟩
instance : Elem Tryd.prog 38 4 1 1 (Go.Value.bool Bool.false) := ⟨Tryd.underlying38, by kernel_rfl⟩
instance : Elem Tryd.prog 59 63 2 24 (Go.Value.agg #[Go.Value.string { data := #[] }, Go.Value.bool Bool.false]) := ⟨Tryd.underlying59, by kernel_rfl⟩
instance : Elem Tryd.prog 69 5 1 1 (Go.Value.int Go.IntKind.u8 0) := ⟨Tryd.underlying69, by kernel_rfl⟩
instance : Elem Tryd.prog 86 3 1 8 (Go.Value.int Go.IntKind.i64 0) := ⟨Tryd.underlying86, by kernel_rfl⟩
instance : Elem Tryd.prog 90 96 2 24 (Go.Value.agg #[Go.Value.string { data := #[] }, Go.Value.bool Bool.false]) := ⟨Tryd.underlying90, by kernel_rfl⟩
end Go.Gsl
