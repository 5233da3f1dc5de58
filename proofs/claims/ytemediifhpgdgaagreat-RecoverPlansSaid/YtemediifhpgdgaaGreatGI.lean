/- The loader's facts on this program's types and functions, as instances. Printed by tools/gen_inst.py. -/
import Derived.Test.YtemediifhpgdgaaGreatProg
import Derived.Test.YtemediifhpgdgaaGreatGA
namespace Go.Gsl
set_option linter.unusedVariables false
open Go.Proofs
instance : NonAgg Tryz.prog 0 := ⟨Tryz.isAgg0⟩
instance : SizeOf Tryz.prog 0 1 := ⟨Tryz.sizeOf0⟩
instance : Und Tryz.prog 0 (Go.TypeDesc.tuple #[]) := ⟨Tryz.underlying0⟩
instance : ZeroOf Tryz.prog 0 (Go.Value.tuple #[]) := ⟨Tryz.zeroValue0⟩
instance : NonAgg Tryz.prog 1 := ⟨Tryz.isAgg1⟩
instance : SizeOf Tryz.prog 1 1 := ⟨Tryz.sizeOf1⟩
instance : Und Tryz.prog 1 (Go.TypeDesc.func #[] #[] Bool.false) := ⟨Tryz.underlying1⟩
instance : ZeroOf Tryz.prog 1 (Go.Value.nilFunc) := ⟨Tryz.zeroValue1⟩
instance : Body Tryz.prog 2 := ⟨Tryz.call2⟩
instance : NonAgg Tryz.prog 2 := ⟨Tryz.isAgg2⟩
instance : SizeOf Tryz.prog 2 1 := ⟨Tryz.sizeOf2⟩
instance : Und Tryz.prog 2 (Go.TypeDesc.int Go.IntKind.i64) := ⟨Tryz.underlying2⟩
instance : ZeroOf Tryz.prog 2 (Go.Value.int Go.IntKind.i64 0) := ⟨Tryz.zeroValue2⟩
instance : Body Tryz.prog 3 := ⟨Tryz.call3⟩
instance : NonAgg Tryz.prog 3 := ⟨Tryz.isAgg3⟩
instance : SizeOf Tryz.prog 3 1 := ⟨Tryz.sizeOf3⟩
instance : Und Tryz.prog 3 (Go.TypeDesc.int Go.IntKind.i64) := ⟨Tryz.underlying3⟩
instance : ZeroOf Tryz.prog 3 (Go.Value.int Go.IntKind.i64 0) := ⟨Tryz.zeroValue3⟩
instance : Body Tryz.prog 4 := ⟨Tryz.call4⟩
instance : NonAgg Tryz.prog 4 := ⟨Tryz.isAgg4⟩
instance : SizeOf Tryz.prog 4 1 := ⟨Tryz.sizeOf4⟩
instance : Und Tryz.prog 4 (Go.TypeDesc.bool) := ⟨Tryz.underlying4⟩
instance : ZeroOf Tryz.prog 4 (Go.Value.bool Bool.false) := ⟨Tryz.zeroValue4⟩
instance : Body Tryz.prog 5 := ⟨Tryz.call5⟩
instance : NonAgg Tryz.prog 5 := ⟨Tryz.isAgg5⟩
instance : SizeOf Tryz.prog 5 1 := ⟨Tryz.sizeOf5⟩
instance : Und Tryz.prog 5 (Go.TypeDesc.int Go.IntKind.u8) := ⟨Tryz.underlying5⟩
instance : ZeroOf Tryz.prog 5 (Go.Value.int Go.IntKind.u8 0) := ⟨Tryz.zeroValue5⟩
instance : Body Tryz.prog 6 := ⟨Tryz.call6⟩
instance : NonAgg Tryz.prog 6 := ⟨Tryz.isAgg6⟩
instance : SizeOf Tryz.prog 6 1 := ⟨Tryz.sizeOf6⟩
instance : Und Tryz.prog 6 (Go.TypeDesc.int Go.IntKind.u8) := ⟨Tryz.underlying6⟩
instance : ZeroOf Tryz.prog 6 (Go.Value.int Go.IntKind.u8 0) := ⟨Tryz.zeroValue6⟩
instance : Body Tryz.prog 7 := ⟨Tryz.call7⟩
instance : IsAggT Tryz.prog 7 := ⟨Tryz.isAgg7⟩
instance : SizeOf Tryz.prog 7 4 := ⟨Tryz.sizeOf7⟩
instance : Und Tryz.prog 7 (Go.TypeDesc.struct #[{ name := "x", type := 2, offset := 0, embedded := Bool.false, tag := "", pkgPath := "runtime", byteOffset := 0 }, { name := "y", type := 3, offset := 1, embedded := Bool.false, tag := "", pkgPath := "runtime", byteOffset := 8 }, { name := "signed", type := 4, offset := 2, embedded := Bool.false, tag := "", pkgPath := "runtime", byteOffset := 16 }, { name := "code", type := 6, offset := 3, embedded := Bool.false, tag := "", pkgPath := "runtime", byteOffset := 17 }]) := ⟨Tryz.underlying7⟩
instance : ZeroOf Tryz.prog 7 (Go.Value.agg #[Go.Value.int Go.IntKind.i64 0, Go.Value.int Go.IntKind.i64 0, Go.Value.bool Bool.false, Go.Value.int Go.IntKind.u8 0]) := ⟨Tryz.zeroValue7⟩
instance : Body Tryz.prog 8 := ⟨Tryz.call8⟩
instance : IsAggT Tryz.prog 8 := ⟨Tryz.isAgg8⟩
instance : SizeOf Tryz.prog 8 4 := ⟨Tryz.sizeOf8⟩
instance : Und Tryz.prog 8 (Go.TypeDesc.struct #[{ name := "x", type := 2, offset := 0, embedded := Bool.false, tag := "", pkgPath := "runtime", byteOffset := 0 }, { name := "y", type := 3, offset := 1, embedded := Bool.false, tag := "", pkgPath := "runtime", byteOffset := 8 }, { name := "signed", type := 4, offset := 2, embedded := Bool.false, tag := "", pkgPath := "runtime", byteOffset := 16 }, { name := "code", type := 6, offset := 3, embedded := Bool.false, tag := "", pkgPath := "runtime", byteOffset := 17 }]) := ⟨Tryz.underlying8⟩
instance : ZeroOf Tryz.prog 8 (Go.Value.agg #[Go.Value.int Go.IntKind.i64 0, Go.Value.int Go.IntKind.i64 0, Go.Value.bool Bool.false, Go.Value.int Go.IntKind.u8 0]) := ⟨Tryz.zeroValue8⟩
instance : Body Tryz.prog 9 := ⟨Tryz.call9⟩
instance : NonAgg Tryz.prog 9 := ⟨Tryz.isAgg9⟩
instance : SizeOf Tryz.prog 9 1 := ⟨Tryz.sizeOf9⟩
instance : Und Tryz.prog 9 (Go.TypeDesc.string) := ⟨Tryz.underlying9⟩
instance : ZeroOf Tryz.prog 9 (Go.Value.string { data := #[] }) := ⟨Tryz.zeroValue9⟩
instance : Body Tryz.prog 10 := ⟨Tryz.call10⟩
instance : NonAgg Tryz.prog 10 := ⟨Tryz.isAgg10⟩
instance : SizeOf Tryz.prog 10 1 := ⟨Tryz.sizeOf10⟩
instance : Und Tryz.prog 10 (Go.TypeDesc.string) := ⟨Tryz.underlying10⟩
instance : ZeroOf Tryz.prog 10 (Go.Value.string { data := #[] }) := ⟨Tryz.zeroValue10⟩
instance : Body Tryz.prog 11 := ⟨Tryz.call11⟩
instance : NonAgg Tryz.prog 11 := ⟨Tryz.isAgg11⟩
instance : SizeOf Tryz.prog 11 1 := ⟨Tryz.sizeOf11⟩
instance : Und Tryz.prog 11 (Go.TypeDesc.string) := ⟨Tryz.underlying11⟩
instance : ZeroOf Tryz.prog 11 (Go.Value.string { data := #[] }) := ⟨Tryz.zeroValue11⟩
instance : Body Tryz.prog 12 := ⟨Tryz.call12⟩
instance : NonAgg Tryz.prog 12 := ⟨Tryz.isAgg12⟩
instance : SizeOf Tryz.prog 12 1 := ⟨Tryz.sizeOf12⟩
instance : Und Tryz.prog 12 (Go.TypeDesc.int Go.IntKind.u64) := ⟨Tryz.underlying12⟩
instance : ZeroOf Tryz.prog 12 (Go.Value.int Go.IntKind.u64 0) := ⟨Tryz.zeroValue12⟩
instance : Body Tryz.prog 13 := ⟨Tryz.call13⟩
instance : IsAggT Tryz.prog 13 := ⟨Tryz.isAgg13⟩
instance : SizeOf Tryz.prog 13 2 := ⟨Tryz.sizeOf13⟩
instance : Und Tryz.prog 13 (Go.TypeDesc.struct #[{ name := "msg", type := 9, offset := 0, embedded := Bool.false, tag := "", pkgPath := "runtime", byteOffset := 0 }, { name := "addr", type := 12, offset := 1, embedded := Bool.false, tag := "", pkgPath := "runtime", byteOffset := 16 }]) := ⟨Tryz.underlying13⟩
instance : ZeroOf Tryz.prog 13 (Go.Value.agg #[Go.Value.string { data := #[] }, Go.Value.int Go.IntKind.u64 0]) := ⟨Tryz.zeroValue13⟩
instance : Body Tryz.prog 14 := ⟨Tryz.call14⟩
instance : IsAggT Tryz.prog 14 := ⟨Tryz.isAgg14⟩
instance : SizeOf Tryz.prog 14 2 := ⟨Tryz.sizeOf14⟩
instance : Und Tryz.prog 14 (Go.TypeDesc.struct #[{ name := "msg", type := 9, offset := 0, embedded := Bool.false, tag := "", pkgPath := "runtime", byteOffset := 0 }, { name := "addr", type := 12, offset := 1, embedded := Bool.false, tag := "", pkgPath := "runtime", byteOffset := 16 }]) := ⟨Tryz.underlying14⟩
instance : ZeroOf Tryz.prog 14 (Go.Value.agg #[Go.Value.string { data := #[] }, Go.Value.int Go.IntKind.u64 0]) := ⟨Tryz.zeroValue14⟩
instance : Body Tryz.prog 15 := ⟨Tryz.call15⟩
instance : NonAgg Tryz.prog 15 := ⟨Tryz.isAgg15⟩
instance : SizeOf Tryz.prog 15 1 := ⟨Tryz.sizeOf15⟩
instance : Und Tryz.prog 15 (Go.TypeDesc.pointer 243) := ⟨Tryz.underlying15⟩
instance : ZeroOf Tryz.prog 15 (Go.Value.pointer Option.none) := ⟨Tryz.zeroValue15⟩
instance : Body Tryz.prog 16 := ⟨Tryz.call16⟩
instance : NonAgg Tryz.prog 16 := ⟨Tryz.isAgg16⟩
instance : SizeOf Tryz.prog 16 1 := ⟨Tryz.sizeOf16⟩
instance : Und Tryz.prog 16 (Go.TypeDesc.pointer 246) := ⟨Tryz.underlying16⟩
instance : ZeroOf Tryz.prog 16 (Go.Value.pointer Option.none) := ⟨Tryz.zeroValue16⟩
instance : Body Tryz.prog 17 := ⟨Tryz.call17⟩
instance : NonAgg Tryz.prog 17 := ⟨Tryz.isAgg17⟩
instance : SizeOf Tryz.prog 17 1 := ⟨Tryz.sizeOf17⟩
instance : Und Tryz.prog 17 (Go.TypeDesc.pointer 254) := ⟨Tryz.underlying17⟩
instance : ZeroOf Tryz.prog 17 (Go.Value.pointer Option.none) := ⟨Tryz.zeroValue17⟩
instance : Body Tryz.prog 18 := ⟨Tryz.call18⟩
instance : IsAggT Tryz.prog 18 := ⟨Tryz.isAgg18⟩
instance : SizeOf Tryz.prog 18 1 := ⟨Tryz.sizeOf18⟩
instance : Und Tryz.prog 18 (Go.TypeDesc.struct #[{ name := "typ", type := 17, offset := 0, embedded := Bool.false, tag := "", pkgPath := "internal/runtime/maps", byteOffset := 0 }]) := ⟨Tryz.underlying18⟩
instance : ZeroOf Tryz.prog 18 (Go.Value.agg #[Go.Value.pointer Option.none]) := ⟨Tryz.zeroValue18⟩
instance : Body Tryz.prog 19 := ⟨Tryz.call19⟩
instance : IsAggT Tryz.prog 19 := ⟨Tryz.isAgg19⟩
instance : SizeOf Tryz.prog 19 1 := ⟨Tryz.sizeOf19⟩
instance : Und Tryz.prog 19 (Go.TypeDesc.struct #[{ name := "typ", type := 17, offset := 0, embedded := Bool.false, tag := "", pkgPath := "internal/runtime/maps", byteOffset := 0 }]) := ⟨Tryz.underlying19⟩
instance : ZeroOf Tryz.prog 19 (Go.Value.agg #[Go.Value.pointer Option.none]) := ⟨Tryz.zeroValue19⟩
instance : Body Tryz.prog 20 := ⟨Tryz.call20⟩
instance : NonAgg Tryz.prog 20 := ⟨Tryz.isAgg20⟩
instance : SizeOf Tryz.prog 20 1 := ⟨Tryz.sizeOf20⟩
instance : Und Tryz.prog 20 (Go.TypeDesc.interface #[]) := ⟨Tryz.underlying20⟩
instance : ZeroOf Tryz.prog 20 (Go.Value.nilIface) := ⟨Tryz.zeroValue20⟩
instance : Body Tryz.prog 21 := ⟨Tryz.call21⟩
instance : NonAgg Tryz.prog 21 := ⟨Tryz.isAgg21⟩
instance : SizeOf Tryz.prog 21 1 := ⟨Tryz.sizeOf21⟩
instance : Und Tryz.prog 21 (Go.TypeDesc.int Go.IntKind.i32) := ⟨Tryz.underlying21⟩
instance : ZeroOf Tryz.prog 21 (Go.Value.int Go.IntKind.i32 0) := ⟨Tryz.zeroValue21⟩
instance : Body Tryz.prog 22 := ⟨Tryz.call22⟩
instance : IsAggT Tryz.prog 22 := ⟨Tryz.isAgg22⟩
instance : SizeOf Tryz.prog 22 2 := ⟨Tryz.sizeOf22⟩
instance : Und Tryz.prog 22 (Go.TypeDesc.struct #[{ name := "From", type := 3, offset := 0, embedded := Bool.false, tag := "", pkgPath := "", byteOffset := 0 }, { name := "Chunks", type := 3, offset := 1, embedded := Bool.false, tag := "", pkgPath := "", byteOffset := 8 }]) := ⟨Tryz.underlying22⟩
instance : ZeroOf Tryz.prog 22 (Go.Value.agg #[Go.Value.int Go.IntKind.i64 0, Go.Value.int Go.IntKind.i64 0]) := ⟨Tryz.zeroValue22⟩
instance : Body Tryz.prog 23 := ⟨Tryz.call23⟩
instance : IsAggT Tryz.prog 23 := ⟨Tryz.isAgg23⟩
instance : SizeOf Tryz.prog 23 2 := ⟨Tryz.sizeOf23⟩
instance : Und Tryz.prog 23 (Go.TypeDesc.struct #[{ name := "From", type := 3, offset := 0, embedded := Bool.false, tag := "", pkgPath := "", byteOffset := 0 }, { name := "Chunks", type := 3, offset := 1, embedded := Bool.false, tag := "", pkgPath := "", byteOffset := 8 }]) := ⟨Tryz.underlying23⟩
instance : ZeroOf Tryz.prog 23 (Go.Value.agg #[Go.Value.int Go.IntKind.i64 0, Go.Value.int Go.IntKind.i64 0]) := ⟨Tryz.zeroValue23⟩
instance : Body Tryz.prog 24 := ⟨Tryz.call24⟩
instance : IsAggT Tryz.prog 24 := ⟨Tryz.isAgg24⟩
instance : SizeOf Tryz.prog 24 4 := ⟨Tryz.sizeOf24⟩
instance : Und Tryz.prog 24 (Go.TypeDesc.array 2 23) := ⟨Tryz.underlying24⟩
instance : ZeroOf Tryz.prog 24 (Go.Value.agg #[Go.Value.int Go.IntKind.i64 0, Go.Value.int Go.IntKind.i64 0, Go.Value.int Go.IntKind.i64 0, Go.Value.int Go.IntKind.i64 0]) := ⟨Tryz.zeroValue24⟩
instance : Body Tryz.prog 25 := ⟨Tryz.call25⟩
instance : IsAggT Tryz.prog 25 := ⟨Tryz.isAgg25⟩
instance : SizeOf Tryz.prog 25 7 := ⟨Tryz.sizeOf25⟩
instance : Und Tryz.prog 25 (Go.TypeDesc.struct #[{ name := "Master", type := 3, offset := 0, embedded := Bool.false, tag := "", pkgPath := "", byteOffset := 0 }, { name := "Log", type := 3, offset := 1, embedded := Bool.false, tag := "", pkgPath := "", byteOffset := 8 }, { name := "Sectors", type := 3, offset := 2, embedded := Bool.false, tag := "", pkgPath := "", byteOffset := 16 }, { name := "Areas", type := 24, offset := 3, embedded := Bool.false, tag := "", pkgPath := "", byteOffset := 24 }]) := ⟨Tryz.underlying25⟩
instance : ZeroOf Tryz.prog 25 (Go.Value.agg #[Go.Value.int Go.IntKind.i64 0, Go.Value.int Go.IntKind.i64 0, Go.Value.int Go.IntKind.i64 0, Go.Value.int Go.IntKind.i64 0, Go.Value.int Go.IntKind.i64 0, Go.Value.int Go.IntKind.i64 0, Go.Value.int Go.IntKind.i64 0]) := ⟨Tryz.zeroValue25⟩
instance : Body Tryz.prog 26 := ⟨Tryz.call26⟩
instance : IsAggT Tryz.prog 26 := ⟨Tryz.isAgg26⟩
instance : SizeOf Tryz.prog 26 7 := ⟨Tryz.sizeOf26⟩
instance : Und Tryz.prog 26 (Go.TypeDesc.struct #[{ name := "Master", type := 3, offset := 0, embedded := Bool.false, tag := "", pkgPath := "", byteOffset := 0 }, { name := "Log", type := 3, offset := 1, embedded := Bool.false, tag := "", pkgPath := "", byteOffset := 8 }, { name := "Sectors", type := 3, offset := 2, embedded := Bool.false, tag := "", pkgPath := "", byteOffset := 16 }, { name := "Areas", type := 24, offset := 3, embedded := Bool.false, tag := "", pkgPath := "", byteOffset := 24 }]) := ⟨Tryz.underlying26⟩
instance : ZeroOf Tryz.prog 26 (Go.Value.agg #[Go.Value.int Go.IntKind.i64 0, Go.Value.int Go.IntKind.i64 0, Go.Value.int Go.IntKind.i64 0, Go.Value.int Go.IntKind.i64 0, Go.Value.int Go.IntKind.i64 0, Go.Value.int Go.IntKind.i64 0, Go.Value.int Go.IntKind.i64 0]) := ⟨Tryz.zeroValue26⟩
instance : Body Tryz.prog 27 := ⟨Tryz.call27⟩
instance : IsAggT Tryz.prog 27 := ⟨Tryz.isAgg27⟩
instance : SizeOf Tryz.prog 27 8 := ⟨Tryz.sizeOf27⟩
instance : Und Tryz.prog 27 (Go.TypeDesc.struct #[{ name := "Chunks", type := 3, offset := 0, embedded := Bool.false, tag := "", pkgPath := "", byteOffset := 0 }, { name := "Layout", type := 26, offset := 1, embedded := Bool.false, tag := "", pkgPath := "", byteOffset := 8 }]) := ⟨Tryz.underlying27⟩
instance : ZeroOf Tryz.prog 27 (Go.Value.agg #[Go.Value.int Go.IntKind.i64 0, Go.Value.int Go.IntKind.i64 0, Go.Value.int Go.IntKind.i64 0, Go.Value.int Go.IntKind.i64 0, Go.Value.int Go.IntKind.i64 0, Go.Value.int Go.IntKind.i64 0, Go.Value.int Go.IntKind.i64 0, Go.Value.int Go.IntKind.i64 0]) := ⟨Tryz.zeroValue27⟩
instance : Body Tryz.prog 28 := ⟨Tryz.call28⟩
instance : IsAggT Tryz.prog 28 := ⟨Tryz.isAgg28⟩
instance : SizeOf Tryz.prog 28 8 := ⟨Tryz.sizeOf28⟩
instance : Und Tryz.prog 28 (Go.TypeDesc.struct #[{ name := "Chunks", type := 3, offset := 0, embedded := Bool.false, tag := "", pkgPath := "", byteOffset := 0 }, { name := "Layout", type := 26, offset := 1, embedded := Bool.false, tag := "", pkgPath := "", byteOffset := 8 }]) := ⟨Tryz.underlying28⟩
instance : ZeroOf Tryz.prog 28 (Go.Value.agg #[Go.Value.int Go.IntKind.i64 0, Go.Value.int Go.IntKind.i64 0, Go.Value.int Go.IntKind.i64 0, Go.Value.int Go.IntKind.i64 0, Go.Value.int Go.IntKind.i64 0, Go.Value.int Go.IntKind.i64 0, Go.Value.int Go.IntKind.i64 0, Go.Value.int Go.IntKind.i64 0]) := ⟨Tryz.zeroValue28⟩
instance : Body Tryz.prog 29 := ⟨Tryz.call29⟩
instance : NonAgg Tryz.prog 29 := ⟨Tryz.isAgg29⟩
instance : SizeOf Tryz.prog 29 1 := ⟨Tryz.sizeOf29⟩
instance : Und Tryz.prog 29 (Go.TypeDesc.int Go.IntKind.i64) := ⟨Tryz.underlying29⟩
instance : ZeroOf Tryz.prog 29 (Go.Value.int Go.IntKind.i64 0) := ⟨Tryz.zeroValue29⟩
instance : Body Tryz.prog 30 := ⟨Tryz.call30⟩
instance : NonAgg Tryz.prog 30 := ⟨Tryz.isAgg30⟩
instance : SizeOf Tryz.prog 30 1 := ⟨Tryz.sizeOf30⟩
instance : Und Tryz.prog 30 (Go.TypeDesc.tuple #[26, 29]) := ⟨Tryz.underlying30⟩
instance : ZeroOf Tryz.prog 30 (Go.Value.tuple #[Go.Value.agg #[Go.Value.int Go.IntKind.i64 0, Go.Value.int Go.IntKind.i64 0, Go.Value.int Go.IntKind.i64 0, Go.Value.int Go.IntKind.i64 0, Go.Value.int Go.IntKind.i64 0, Go.Value.int Go.IntKind.i64 0, Go.Value.int Go.IntKind.i64 0], Go.Value.int Go.IntKind.i64 0]) := ⟨Tryz.zeroValue30⟩
instance : Body Tryz.prog 31 := ⟨Tryz.call31⟩
instance : NonAgg Tryz.prog 31 := ⟨Tryz.isAgg31⟩
instance : SizeOf Tryz.prog 31 1 := ⟨Tryz.sizeOf31⟩
instance : Und Tryz.prog 31 (Go.TypeDesc.func #[3, 3, 3] #[26, 29] Bool.false) := ⟨Tryz.underlying31⟩
instance : ZeroOf Tryz.prog 31 (Go.Value.nilFunc) := ⟨Tryz.zeroValue31⟩
instance : Body Tryz.prog 32 := ⟨Tryz.call32⟩
instance : NonAgg Tryz.prog 32 := ⟨Tryz.isAgg32⟩
instance : SizeOf Tryz.prog 32 1 := ⟨Tryz.sizeOf32⟩
instance : Und Tryz.prog 32 (Go.TypeDesc.func #[] #[4] Bool.false) := ⟨Tryz.underlying32⟩
instance : ZeroOf Tryz.prog 32 (Go.Value.nilFunc) := ⟨Tryz.zeroValue32⟩
instance : Body Tryz.prog 33 := ⟨Tryz.call33⟩
instance : NonAgg Tryz.prog 33 := ⟨Tryz.isAgg33⟩
instance : SizeOf Tryz.prog 33 1 := ⟨Tryz.sizeOf33⟩
instance : Und Tryz.prog 33 (Go.TypeDesc.func #[26, 3] #[29] Bool.false) := ⟨Tryz.underlying33⟩
instance : ZeroOf Tryz.prog 33 (Go.Value.nilFunc) := ⟨Tryz.zeroValue33⟩
instance : Body Tryz.prog 34 := ⟨Tryz.call34⟩
instance : NonAgg Tryz.prog 34 := ⟨Tryz.isAgg34⟩
instance : SizeOf Tryz.prog 34 1 := ⟨Tryz.sizeOf34⟩
instance : Und Tryz.prog 34 (Go.TypeDesc.func #[3, 3, 28] #[4] Bool.false) := ⟨Tryz.underlying34⟩
instance : ZeroOf Tryz.prog 34 (Go.Value.nilFunc) := ⟨Tryz.zeroValue34⟩
instance : Body Tryz.prog 35 := ⟨Tryz.call35⟩
instance : IsAggT Tryz.prog 35 := ⟨Tryz.isAgg35⟩
instance : SizeOf Tryz.prog 35 4 := ⟨Tryz.sizeOf35⟩
instance : Und Tryz.prog 35 (Go.TypeDesc.struct #[{ name := "Sector", type := 2, offset := 0, embedded := Bool.false, tag := "", pkgPath := "", byteOffset := 0 }, { name := "Offset", type := 3, offset := 1, embedded := Bool.false, tag := "", pkgPath := "", byteOffset := 8 }, { name := "Number", type := 2, offset := 2, embedded := Bool.false, tag := "", pkgPath := "", byteOffset := 16 }, { name := "Run", type := 2, offset := 3, embedded := Bool.false, tag := "", pkgPath := "", byteOffset := 24 }]) := ⟨Tryz.underlying35⟩
instance : ZeroOf Tryz.prog 35 (Go.Value.agg #[Go.Value.int Go.IntKind.i64 0, Go.Value.int Go.IntKind.i64 0, Go.Value.int Go.IntKind.i64 0, Go.Value.int Go.IntKind.i64 0]) := ⟨Tryz.zeroValue35⟩
instance : Body Tryz.prog 36 := ⟨Tryz.call36⟩
instance : IsAggT Tryz.prog 36 := ⟨Tryz.isAgg36⟩
instance : SizeOf Tryz.prog 36 4 := ⟨Tryz.sizeOf36⟩
instance : Und Tryz.prog 36 (Go.TypeDesc.struct #[{ name := "Sector", type := 2, offset := 0, embedded := Bool.false, tag := "", pkgPath := "", byteOffset := 0 }, { name := "Offset", type := 3, offset := 1, embedded := Bool.false, tag := "", pkgPath := "", byteOffset := 8 }, { name := "Number", type := 2, offset := 2, embedded := Bool.false, tag := "", pkgPath := "", byteOffset := 16 }, { name := "Run", type := 2, offset := 3, embedded := Bool.false, tag := "", pkgPath := "", byteOffset := 24 }]) := ⟨Tryz.underlying36⟩
instance : ZeroOf Tryz.prog 36 (Go.Value.agg #[Go.Value.int Go.IntKind.i64 0, Go.Value.int Go.IntKind.i64 0, Go.Value.int Go.IntKind.i64 0, Go.Value.int Go.IntKind.i64 0]) := ⟨Tryz.zeroValue36⟩
instance : Body Tryz.prog 37 := ⟨Tryz.call37⟩
instance : IsAggT Tryz.prog 37 := ⟨Tryz.isAgg37⟩
instance : SizeOf Tryz.prog 37 8 := ⟨Tryz.sizeOf37⟩
instance : Und Tryz.prog 37 (Go.TypeDesc.struct #[{ name := "Seq", type := 2, offset := 0, embedded := Bool.false, tag := "", pkgPath := "", byteOffset := 0 }, { name := "Area", type := 3, offset := 1, embedded := Bool.false, tag := "", pkgPath := "", byteOffset := 8 }, { name := "Chunks", type := 3, offset := 2, embedded := Bool.false, tag := "", pkgPath := "", byteOffset := 16 }, { name := "TS", type := 2, offset := 3, embedded := Bool.false, tag := "", pkgPath := "", byteOffset := 24 }, { name := "Mark", type := 36, offset := 4, embedded := Bool.false, tag := "", pkgPath := "", byteOffset := 32 }]) := ⟨Tryz.underlying37⟩
instance : ZeroOf Tryz.prog 37 (Go.Value.agg #[Go.Value.int Go.IntKind.i64 0, Go.Value.int Go.IntKind.i64 0, Go.Value.int Go.IntKind.i64 0, Go.Value.int Go.IntKind.i64 0, Go.Value.int Go.IntKind.i64 0, Go.Value.int Go.IntKind.i64 0, Go.Value.int Go.IntKind.i64 0, Go.Value.int Go.IntKind.i64 0]) := ⟨Tryz.zeroValue37⟩
instance : Body Tryz.prog 38 := ⟨Tryz.call38⟩
instance : IsAggT Tryz.prog 38 := ⟨Tryz.isAgg38⟩
instance : SizeOf Tryz.prog 38 8 := ⟨Tryz.sizeOf38⟩
instance : Und Tryz.prog 38 (Go.TypeDesc.struct #[{ name := "Seq", type := 2, offset := 0, embedded := Bool.false, tag := "", pkgPath := "", byteOffset := 0 }, { name := "Area", type := 3, offset := 1, embedded := Bool.false, tag := "", pkgPath := "", byteOffset := 8 }, { name := "Chunks", type := 3, offset := 2, embedded := Bool.false, tag := "", pkgPath := "", byteOffset := 16 }, { name := "TS", type := 2, offset := 3, embedded := Bool.false, tag := "", pkgPath := "", byteOffset := 24 }, { name := "Mark", type := 36, offset := 4, embedded := Bool.false, tag := "", pkgPath := "", byteOffset := 32 }]) := ⟨Tryz.underlying38⟩
instance : ZeroOf Tryz.prog 38 (Go.Value.agg #[Go.Value.int Go.IntKind.i64 0, Go.Value.int Go.IntKind.i64 0, Go.Value.int Go.IntKind.i64 0, Go.Value.int Go.IntKind.i64 0, Go.Value.int Go.IntKind.i64 0, Go.Value.int Go.IntKind.i64 0, Go.Value.int Go.IntKind.i64 0, Go.Value.int Go.IntKind.i64 0]) := ⟨Tryz.zeroValue38⟩
instance : Body Tryz.prog 39 := ⟨Tryz.call39⟩
instance : NonAgg Tryz.prog 39 := ⟨Tryz.isAgg39⟩
instance : SizeOf Tryz.prog 39 1 := ⟨Tryz.sizeOf39⟩
instance : Und Tryz.prog 39 (Go.TypeDesc.slice 118) := ⟨Tryz.underlying39⟩
instance : ZeroOf Tryz.prog 39 (Go.Value.slice Option.none 0 0) := ⟨Tryz.zeroValue39⟩
instance : Body Tryz.prog 40 := ⟨Tryz.call40⟩
instance : IsAggT Tryz.prog 40 := ⟨Tryz.isAgg40⟩
instance : SizeOf Tryz.prog 40 11 := ⟨Tryz.sizeOf40⟩
instance : Und Tryz.prog 40 (Go.TypeDesc.struct #[{ name := "Master", type := 38, offset := 0, embedded := Bool.false, tag := "", pkgPath := "", byteOffset := 0 }, { name := "Pairs", type := 39, offset := 8, embedded := Bool.false, tag := "", pkgPath := "", byteOffset := 64 }, { name := "TS", type := 2, offset := 9, embedded := Bool.false, tag := "", pkgPath := "", byteOffset := 88 }, { name := "Redone", type := 3, offset := 10, embedded := Bool.false, tag := "", pkgPath := "", byteOffset := 96 }]) := ⟨Tryz.underlying40⟩
instance : ZeroOf Tryz.prog 40 (Go.Value.agg #[Go.Value.int Go.IntKind.i64 0, Go.Value.int Go.IntKind.i64 0, Go.Value.int Go.IntKind.i64 0, Go.Value.int Go.IntKind.i64 0, Go.Value.int Go.IntKind.i64 0, Go.Value.int Go.IntKind.i64 0, Go.Value.int Go.IntKind.i64 0, Go.Value.int Go.IntKind.i64 0, Go.Value.slice Option.none 0 0, Go.Value.int Go.IntKind.i64 0, Go.Value.int Go.IntKind.i64 0]) := ⟨Tryz.zeroValue40⟩
instance : Body Tryz.prog 41 := ⟨Tryz.call41⟩
instance : IsAggT Tryz.prog 41 := ⟨Tryz.isAgg41⟩
instance : SizeOf Tryz.prog 41 11 := ⟨Tryz.sizeOf41⟩
instance : Und Tryz.prog 41 (Go.TypeDesc.struct #[{ name := "Master", type := 38, offset := 0, embedded := Bool.false, tag := "", pkgPath := "", byteOffset := 0 }, { name := "Pairs", type := 39, offset := 8, embedded := Bool.false, tag := "", pkgPath := "", byteOffset := 64 }, { name := "TS", type := 2, offset := 9, embedded := Bool.false, tag := "", pkgPath := "", byteOffset := 88 }, { name := "Redone", type := 3, offset := 10, embedded := Bool.false, tag := "", pkgPath := "", byteOffset := 96 }]) := ⟨Tryz.underlying41⟩
instance : ZeroOf Tryz.prog 41 (Go.Value.agg #[Go.Value.int Go.IntKind.i64 0, Go.Value.int Go.IntKind.i64 0, Go.Value.int Go.IntKind.i64 0, Go.Value.int Go.IntKind.i64 0, Go.Value.int Go.IntKind.i64 0, Go.Value.int Go.IntKind.i64 0, Go.Value.int Go.IntKind.i64 0, Go.Value.int Go.IntKind.i64 0, Go.Value.slice Option.none 0 0, Go.Value.int Go.IntKind.i64 0, Go.Value.int Go.IntKind.i64 0]) := ⟨Tryz.zeroValue41⟩
instance : Body Tryz.prog 42 := ⟨Tryz.call42⟩
instance : NonAgg Tryz.prog 42 := ⟨Tryz.isAgg42⟩
instance : SizeOf Tryz.prog 42 1 := ⟨Tryz.sizeOf42⟩
instance : Und Tryz.prog 42 (Go.TypeDesc.pointer 111) := ⟨Tryz.underlying42⟩
instance : ZeroOf Tryz.prog 42 (Go.Value.pointer Option.none) := ⟨Tryz.zeroValue42⟩
instance : Body Tryz.prog 43 := ⟨Tryz.call43⟩
instance : NonAgg Tryz.prog 43 := ⟨Tryz.isAgg43⟩
instance : SizeOf Tryz.prog 43 1 := ⟨Tryz.sizeOf43⟩
instance : Und Tryz.prog 43 (Go.TypeDesc.tuple #[41, 42, 29]) := ⟨Tryz.underlying43⟩
instance : ZeroOf Tryz.prog 43 (Go.Value.tuple #[Go.Value.agg #[Go.Value.int Go.IntKind.i64 0, Go.Value.int Go.IntKind.i64 0, Go.Value.int Go.IntKind.i64 0, Go.Value.int Go.IntKind.i64 0, Go.Value.int Go.IntKind.i64 0, Go.Value.int Go.IntKind.i64 0, Go.Value.int Go.IntKind.i64 0, Go.Value.int Go.IntKind.i64 0, Go.Value.slice Option.none 0 0, Go.Value.int Go.IntKind.i64 0, Go.Value.int Go.IntKind.i64 0], Go.Value.pointer Option.none, Go.Value.int Go.IntKind.i64 0]) := ⟨Tryz.zeroValue43⟩
instance : Body Tryz.prog 44 := ⟨Tryz.call44⟩
instance : NonAgg Tryz.prog 44 := ⟨Tryz.isAgg44⟩
instance : SizeOf Tryz.prog 44 1 := ⟨Tryz.sizeOf44⟩
instance : Und Tryz.prog 44 (Go.TypeDesc.func #[49, 26] #[41, 42, 29] Bool.false) := ⟨Tryz.underlying44⟩
instance : ZeroOf Tryz.prog 44 (Go.Value.nilFunc) := ⟨Tryz.zeroValue44⟩
instance : Body Tryz.prog 45 := ⟨Tryz.call45⟩
instance : NonAgg Tryz.prog 45 := ⟨Tryz.isAgg45⟩
instance : SizeOf Tryz.prog 45 1 := ⟨Tryz.sizeOf45⟩
instance : Und Tryz.prog 45 (Go.TypeDesc.tuple #[38, 29]) := ⟨Tryz.underlying45⟩
instance : ZeroOf Tryz.prog 45 (Go.Value.tuple #[Go.Value.agg #[Go.Value.int Go.IntKind.i64 0, Go.Value.int Go.IntKind.i64 0, Go.Value.int Go.IntKind.i64 0, Go.Value.int Go.IntKind.i64 0, Go.Value.int Go.IntKind.i64 0, Go.Value.int Go.IntKind.i64 0, Go.Value.int Go.IntKind.i64 0, Go.Value.int Go.IntKind.i64 0], Go.Value.int Go.IntKind.i64 0]) := ⟨Tryz.zeroValue45⟩
instance : Body Tryz.prog 46 := ⟨Tryz.call46⟩
instance : NonAgg Tryz.prog 46 := ⟨Tryz.isAgg46⟩
instance : SizeOf Tryz.prog 46 1 := ⟨Tryz.sizeOf46⟩
instance : Und Tryz.prog 46 (Go.TypeDesc.func #[49, 26, 38, 2, 36, 39] #[38, 29] Bool.true) := ⟨Tryz.underlying46⟩
instance : ZeroOf Tryz.prog 46 (Go.Value.nilFunc) := ⟨Tryz.zeroValue46⟩
instance : Body Tryz.prog 47 := ⟨Tryz.call47⟩
instance : NonAgg Tryz.prog 47 := ⟨Tryz.isAgg47⟩
instance : SizeOf Tryz.prog 47 1 := ⟨Tryz.sizeOf47⟩
instance : Und Tryz.prog 47 (Go.TypeDesc.func #[41, 41] #[4] Bool.false) := ⟨Tryz.underlying47⟩
instance : ZeroOf Tryz.prog 47 (Go.Value.nilFunc) := ⟨Tryz.zeroValue47⟩
instance : Body Tryz.prog 48 := ⟨Tryz.call48⟩
instance : NonAgg Tryz.prog 48 := ⟨Tryz.isAgg48⟩
instance : SizeOf Tryz.prog 48 1 := ⟨Tryz.sizeOf48⟩
instance : Und Tryz.prog 48 (Go.TypeDesc.func #[26, 38] #[4] Bool.false) := ⟨Tryz.underlying48⟩
instance : ZeroOf Tryz.prog 48 (Go.Value.nilFunc) := ⟨Tryz.zeroValue48⟩
instance : Body Tryz.prog 49 := ⟨Tryz.call49⟩
instance : NonAgg Tryz.prog 49 := ⟨Tryz.isAgg49⟩
instance : SizeOf Tryz.prog 49 1 := ⟨Tryz.sizeOf49⟩
instance : Und Tryz.prog 49 (Go.TypeDesc.pointer 102) := ⟨Tryz.underlying49⟩
instance : ZeroOf Tryz.prog 49 (Go.Value.pointer Option.none) := ⟨Tryz.zeroValue49⟩
instance : Body Tryz.prog 50 := ⟨Tryz.call50⟩
instance : NonAgg Tryz.prog 50 := ⟨Tryz.isAgg50⟩
instance : SizeOf Tryz.prog 50 1 := ⟨Tryz.sizeOf50⟩
instance : Und Tryz.prog 50 (Go.TypeDesc.tuple #[49, 29]) := ⟨Tryz.underlying50⟩
instance : ZeroOf Tryz.prog 50 (Go.Value.tuple #[Go.Value.pointer Option.none, Go.Value.int Go.IntKind.i64 0]) := ⟨Tryz.zeroValue50⟩
instance : Body Tryz.prog 51 := ⟨Tryz.call51⟩
instance : NonAgg Tryz.prog 51 := ⟨Tryz.isAgg51⟩
instance : SizeOf Tryz.prog 51 1 := ⟨Tryz.sizeOf51⟩
instance : Und Tryz.prog 51 (Go.TypeDesc.func #[3] #[49, 29] Bool.false) := ⟨Tryz.underlying51⟩
instance : ZeroOf Tryz.prog 51 (Go.Value.nilFunc) := ⟨Tryz.zeroValue51⟩
instance : Body Tryz.prog 52 := ⟨Tryz.call52⟩
instance : NonAgg Tryz.prog 52 := ⟨Tryz.isAgg52⟩
instance : SizeOf Tryz.prog 52 1 := ⟨Tryz.sizeOf52⟩
instance : Und Tryz.prog 52 (Go.TypeDesc.func #[] #[26] Bool.false) := ⟨Tryz.underlying52⟩
instance : ZeroOf Tryz.prog 52 (Go.Value.nilFunc) := ⟨Tryz.zeroValue52⟩
instance : Body Tryz.prog 53 := ⟨Tryz.call53⟩
instance : NonAgg Tryz.prog 53 := ⟨Tryz.isAgg53⟩
instance : SizeOf Tryz.prog 53 1 := ⟨Tryz.sizeOf53⟩
instance : Und Tryz.prog 53 (Go.TypeDesc.slice 5) := ⟨Tryz.underlying53⟩
instance : ZeroOf Tryz.prog 53 (Go.Value.slice Option.none 0 0) := ⟨Tryz.zeroValue53⟩
instance : Body Tryz.prog 54 := ⟨Tryz.call54⟩
instance : NonAgg Tryz.prog 54 := ⟨Tryz.isAgg54⟩
instance : SizeOf Tryz.prog 54 1 := ⟨Tryz.sizeOf54⟩
instance : Und Tryz.prog 54 (Go.TypeDesc.tuple #[53, 29]) := ⟨Tryz.underlying54⟩
instance : ZeroOf Tryz.prog 54 (Go.Value.tuple #[Go.Value.slice Option.none 0 0, Go.Value.int Go.IntKind.i64 0]) := ⟨Tryz.zeroValue54⟩
instance : Body Tryz.prog 55 := ⟨Tryz.call55⟩
instance : NonAgg Tryz.prog 55 := ⟨Tryz.isAgg55⟩
instance : SizeOf Tryz.prog 55 1 := ⟨Tryz.sizeOf55⟩
instance : Und Tryz.prog 55 (Go.TypeDesc.func #[60] #[53, 29] Bool.false) := ⟨Tryz.underlying55⟩
instance : ZeroOf Tryz.prog 55 (Go.Value.nilFunc) := ⟨Tryz.zeroValue55⟩
instance : Body Tryz.prog 56 := ⟨Tryz.call56⟩
instance : IsAggT Tryz.prog 56 := ⟨Tryz.isAgg56⟩
instance : SizeOf Tryz.prog 56 3 := ⟨Tryz.sizeOf56⟩
instance : Und Tryz.prog 56 (Go.TypeDesc.struct #[{ name := "Key", type := 9, offset := 0, embedded := Bool.false, tag := "", pkgPath := "", byteOffset := 0 }, { name := "Value", type := 9, offset := 1, embedded := Bool.false, tag := "", pkgPath := "", byteOffset := 16 }, { name := "Del", type := 4, offset := 2, embedded := Bool.false, tag := "", pkgPath := "", byteOffset := 32 }]) := ⟨Tryz.underlying56⟩
instance : ZeroOf Tryz.prog 56 (Go.Value.agg #[Go.Value.string { data := #[] }, Go.Value.string { data := #[] }, Go.Value.bool Bool.false]) := ⟨Tryz.zeroValue56⟩
instance : Body Tryz.prog 57 := ⟨Tryz.call57⟩
instance : IsAggT Tryz.prog 57 := ⟨Tryz.isAgg57⟩
instance : SizeOf Tryz.prog 57 3 := ⟨Tryz.sizeOf57⟩
instance : Und Tryz.prog 57 (Go.TypeDesc.struct #[{ name := "Key", type := 9, offset := 0, embedded := Bool.false, tag := "", pkgPath := "", byteOffset := 0 }, { name := "Value", type := 9, offset := 1, embedded := Bool.false, tag := "", pkgPath := "", byteOffset := 16 }, { name := "Del", type := 4, offset := 2, embedded := Bool.false, tag := "", pkgPath := "", byteOffset := 32 }]) := ⟨Tryz.underlying57⟩
instance : ZeroOf Tryz.prog 57 (Go.Value.agg #[Go.Value.string { data := #[] }, Go.Value.string { data := #[] }, Go.Value.bool Bool.false]) := ⟨Tryz.zeroValue57⟩
instance : Body Tryz.prog 58 := ⟨Tryz.call58⟩
instance : NonAgg Tryz.prog 58 := ⟨Tryz.isAgg58⟩
instance : SizeOf Tryz.prog 58 1 := ⟨Tryz.sizeOf58⟩
instance : Und Tryz.prog 58 (Go.TypeDesc.slice 57) := ⟨Tryz.underlying58⟩
instance : ZeroOf Tryz.prog 58 (Go.Value.slice Option.none 0 0) := ⟨Tryz.zeroValue58⟩
instance : Body Tryz.prog 59 := ⟨Tryz.call59⟩
instance : IsAggT Tryz.prog 59 := ⟨Tryz.isAgg59⟩
instance : SizeOf Tryz.prog 59 2 := ⟨Tryz.sizeOf59⟩
instance : Und Tryz.prog 59 (Go.TypeDesc.struct #[{ name := "TS", type := 2, offset := 0, embedded := Bool.false, tag := "", pkgPath := "", byteOffset := 0 }, { name := "Writes", type := 58, offset := 1, embedded := Bool.false, tag := "", pkgPath := "", byteOffset := 8 }]) := ⟨Tryz.underlying59⟩
instance : ZeroOf Tryz.prog 59 (Go.Value.agg #[Go.Value.int Go.IntKind.i64 0, Go.Value.slice Option.none 0 0]) := ⟨Tryz.zeroValue59⟩
instance : Body Tryz.prog 60 := ⟨Tryz.call60⟩
instance : IsAggT Tryz.prog 60 := ⟨Tryz.isAgg60⟩
instance : SizeOf Tryz.prog 60 2 := ⟨Tryz.sizeOf60⟩
instance : Und Tryz.prog 60 (Go.TypeDesc.struct #[{ name := "TS", type := 2, offset := 0, embedded := Bool.false, tag := "", pkgPath := "", byteOffset := 0 }, { name := "Writes", type := 58, offset := 1, embedded := Bool.false, tag := "", pkgPath := "", byteOffset := 8 }]) := ⟨Tryz.underlying60⟩
instance : ZeroOf Tryz.prog 60 (Go.Value.agg #[Go.Value.int Go.IntKind.i64 0, Go.Value.slice Option.none 0 0]) := ⟨Tryz.zeroValue60⟩
instance : Body Tryz.prog 61 := ⟨Tryz.call61⟩
instance : NonAgg Tryz.prog 61 := ⟨Tryz.isAgg61⟩
instance : SizeOf Tryz.prog 61 1 := ⟨Tryz.sizeOf61⟩
instance : Und Tryz.prog 61 (Go.TypeDesc.tuple #[2, 29]) := ⟨Tryz.underlying61⟩
instance : ZeroOf Tryz.prog 61 (Go.Value.tuple #[Go.Value.int Go.IntKind.i64 0, Go.Value.int Go.IntKind.i64 0]) := ⟨Tryz.zeroValue61⟩
instance : Body Tryz.prog 62 := ⟨Tryz.call62⟩
instance : NonAgg Tryz.prog 62 := ⟨Tryz.isAgg62⟩
instance : SizeOf Tryz.prog 62 1 := ⟨Tryz.sizeOf62⟩
instance : Und Tryz.prog 62 (Go.TypeDesc.func #[53] #[2, 29] Bool.true) := ⟨Tryz.underlying62⟩
instance : ZeroOf Tryz.prog 62 (Go.Value.nilFunc) := ⟨Tryz.zeroValue62⟩
instance : Body Tryz.prog 63 := ⟨Tryz.call63⟩
instance : NonAgg Tryz.prog 63 := ⟨Tryz.isAgg63⟩
instance : SizeOf Tryz.prog 63 1 := ⟨Tryz.sizeOf63⟩
instance : Und Tryz.prog 63 (Go.TypeDesc.func #[] #[29] Bool.false) := ⟨Tryz.underlying63⟩
instance : ZeroOf Tryz.prog 63 (Go.Value.nilFunc) := ⟨Tryz.zeroValue63⟩
instance : Body Tryz.prog 64 := ⟨Tryz.call64⟩
instance : NonAgg Tryz.prog 64 := ⟨Tryz.isAgg64⟩
instance : SizeOf Tryz.prog 64 1 := ⟨Tryz.sizeOf64⟩
instance : Und Tryz.prog 64 (Go.TypeDesc.func #[23, 3] #[29] Bool.false) := ⟨Tryz.underlying64⟩
instance : ZeroOf Tryz.prog 64 (Go.Value.nilFunc) := ⟨Tryz.zeroValue64⟩
instance : Body Tryz.prog 65 := ⟨Tryz.call65⟩
instance : IsAggT Tryz.prog 65 := ⟨Tryz.isAgg65⟩
instance : SizeOf Tryz.prog 65 2 := ⟨Tryz.sizeOf65⟩
instance : Und Tryz.prog 65 (Go.TypeDesc.struct #[{ name := "from", type := 3, offset := 0, embedded := Bool.false, tag := "", pkgPath := "cresset/recover", byteOffset := 0 }, { name := "many", type := 3, offset := 1, embedded := Bool.false, tag := "", pkgPath := "cresset/recover", byteOffset := 8 }]) := ⟨Tryz.underlying65⟩
instance : ZeroOf Tryz.prog 65 (Go.Value.agg #[Go.Value.int Go.IntKind.i64 0, Go.Value.int Go.IntKind.i64 0]) := ⟨Tryz.zeroValue65⟩
instance : Body Tryz.prog 66 := ⟨Tryz.call66⟩
instance : IsAggT Tryz.prog 66 := ⟨Tryz.isAgg66⟩
instance : SizeOf Tryz.prog 66 2 := ⟨Tryz.sizeOf66⟩
instance : Und Tryz.prog 66 (Go.TypeDesc.struct #[{ name := "from", type := 3, offset := 0, embedded := Bool.false, tag := "", pkgPath := "cresset/recover", byteOffset := 0 }, { name := "many", type := 3, offset := 1, embedded := Bool.false, tag := "", pkgPath := "cresset/recover", byteOffset := 8 }]) := ⟨Tryz.underlying66⟩
instance : ZeroOf Tryz.prog 66 (Go.Value.agg #[Go.Value.int Go.IntKind.i64 0, Go.Value.int Go.IntKind.i64 0]) := ⟨Tryz.zeroValue66⟩
instance : Body Tryz.prog 67 := ⟨Tryz.call67⟩
instance : NonAgg Tryz.prog 67 := ⟨Tryz.isAgg67⟩
instance : SizeOf Tryz.prog 67 1 := ⟨Tryz.sizeOf67⟩
instance : Und Tryz.prog 67 (Go.TypeDesc.slice 66) := ⟨Tryz.underlying67⟩
instance : ZeroOf Tryz.prog 67 (Go.Value.slice Option.none 0 0) := ⟨Tryz.zeroValue67⟩
instance : Body Tryz.prog 68 := ⟨Tryz.call68⟩
instance : IsAggT Tryz.prog 68 := ⟨Tryz.isAgg68⟩
instance : SizeOf Tryz.prog 68 2 := ⟨Tryz.sizeOf68⟩
instance : Und Tryz.prog 68 (Go.TypeDesc.struct #[{ name := "from", type := 3, offset := 0, embedded := Bool.false, tag := "", pkgPath := "cresset/cressetref21", byteOffset := 0 }, { name := "many", type := 3, offset := 1, embedded := Bool.false, tag := "", pkgPath := "cresset/cressetref21", byteOffset := 8 }]) := ⟨Tryz.underlying68⟩
instance : ZeroOf Tryz.prog 68 (Go.Value.agg #[Go.Value.int Go.IntKind.i64 0, Go.Value.int Go.IntKind.i64 0]) := ⟨Tryz.zeroValue68⟩
instance : Body Tryz.prog 69 := ⟨Tryz.call69⟩
instance : IsAggT Tryz.prog 69 := ⟨Tryz.isAgg69⟩
instance : SizeOf Tryz.prog 69 2 := ⟨Tryz.sizeOf69⟩
instance : Und Tryz.prog 69 (Go.TypeDesc.struct #[{ name := "from", type := 3, offset := 0, embedded := Bool.false, tag := "", pkgPath := "cresset/cressetref21", byteOffset := 0 }, { name := "many", type := 3, offset := 1, embedded := Bool.false, tag := "", pkgPath := "cresset/cressetref21", byteOffset := 8 }]) := ⟨Tryz.underlying69⟩
instance : ZeroOf Tryz.prog 69 (Go.Value.agg #[Go.Value.int Go.IntKind.i64 0, Go.Value.int Go.IntKind.i64 0]) := ⟨Tryz.zeroValue69⟩
instance : Body Tryz.prog 70 := ⟨Tryz.call70⟩
instance : NonAgg Tryz.prog 70 := ⟨Tryz.isAgg70⟩
instance : SizeOf Tryz.prog 70 1 := ⟨Tryz.sizeOf70⟩
instance : Und Tryz.prog 70 (Go.TypeDesc.slice 69) := ⟨Tryz.underlying70⟩
instance : ZeroOf Tryz.prog 70 (Go.Value.slice Option.none 0 0) := ⟨Tryz.zeroValue70⟩
instance : Body Tryz.prog 71 := ⟨Tryz.call71⟩
instance : NonAgg Tryz.prog 71 := ⟨Tryz.isAgg71⟩
instance : SizeOf Tryz.prog 71 1 := ⟨Tryz.sizeOf71⟩
instance : Und Tryz.prog 71 (Go.TypeDesc.func #[20] #[29] Bool.false) := ⟨Tryz.underlying71⟩
instance : ZeroOf Tryz.prog 71 (Go.Value.nilFunc) := ⟨Tryz.zeroValue71⟩
instance : Body Tryz.prog 72 := ⟨Tryz.call72⟩
instance : NonAgg Tryz.prog 72 := ⟨Tryz.isAgg72⟩
instance : SizeOf Tryz.prog 72 1 := ⟨Tryz.sizeOf72⟩
instance : Und Tryz.prog 72 (Go.TypeDesc.func #[] #[3] Bool.false) := ⟨Tryz.underlying72⟩
instance : ZeroOf Tryz.prog 72 (Go.Value.nilFunc) := ⟨Tryz.zeroValue72⟩
instance : Body Tryz.prog 73 := ⟨Tryz.call73⟩
instance : NonAgg Tryz.prog 73 := ⟨Tryz.isAgg73⟩
instance : SizeOf Tryz.prog 73 1 := ⟨Tryz.sizeOf73⟩
instance : Und Tryz.prog 73 (Go.TypeDesc.func #[29] #[] Bool.false) := ⟨Tryz.underlying73⟩
instance : ZeroOf Tryz.prog 73 (Go.Value.nilFunc) := ⟨Tryz.zeroValue73⟩
instance : Body Tryz.prog 74 := ⟨Tryz.call74⟩
instance : NonAgg Tryz.prog 74 := ⟨Tryz.isAgg74⟩
instance : SizeOf Tryz.prog 74 1 := ⟨Tryz.sizeOf74⟩
instance : Und Tryz.prog 74 (Go.TypeDesc.func #[49, 3] #[38, 29] Bool.false) := ⟨Tryz.underlying74⟩
instance : ZeroOf Tryz.prog 74 (Go.Value.nilFunc) := ⟨Tryz.zeroValue74⟩
instance : Body Tryz.prog 75 := ⟨Tryz.call75⟩
instance : NonAgg Tryz.prog 75 := ⟨Tryz.isAgg75⟩
instance : SizeOf Tryz.prog 75 1 := ⟨Tryz.sizeOf75⟩
instance : Und Tryz.prog 75 (Go.TypeDesc.tuple #[39, 29]) := ⟨Tryz.underlying75⟩
instance : ZeroOf Tryz.prog 75 (Go.Value.tuple #[Go.Value.slice Option.none 0 0, Go.Value.int Go.IntKind.i64 0]) := ⟨Tryz.zeroValue75⟩
instance : Body Tryz.prog 76 := ⟨Tryz.call76⟩
instance : NonAgg Tryz.prog 76 := ⟨Tryz.isAgg76⟩
instance : SizeOf Tryz.prog 76 1 := ⟨Tryz.sizeOf76⟩
instance : Und Tryz.prog 76 (Go.TypeDesc.func #[49, 23, 3] #[39, 29] Bool.false) := ⟨Tryz.underlying76⟩
instance : ZeroOf Tryz.prog 76 (Go.Value.nilFunc) := ⟨Tryz.zeroValue76⟩
instance : Body Tryz.prog 77 := ⟨Tryz.call77⟩
instance : NonAgg Tryz.prog 77 := ⟨Tryz.isAgg77⟩
instance : SizeOf Tryz.prog 77 1 := ⟨Tryz.sizeOf77⟩
instance : Und Tryz.prog 77 (Go.TypeDesc.tuple #[42, 29]) := ⟨Tryz.underlying77⟩
instance : ZeroOf Tryz.prog 77 (Go.Value.tuple #[Go.Value.pointer Option.none, Go.Value.int Go.IntKind.i64 0]) := ⟨Tryz.zeroValue77⟩
instance : Body Tryz.prog 78 := ⟨Tryz.call78⟩
instance : NonAgg Tryz.prog 78 := ⟨Tryz.isAgg78⟩
instance : SizeOf Tryz.prog 78 1 := ⟨Tryz.sizeOf78⟩
instance : Und Tryz.prog 78 (Go.TypeDesc.func #[49, 3, 3, 36] #[42, 29] Bool.false) := ⟨Tryz.underlying78⟩
instance : ZeroOf Tryz.prog 78 (Go.Value.nilFunc) := ⟨Tryz.zeroValue78⟩
instance : Body Tryz.prog 79 := ⟨Tryz.call79⟩
instance : NonAgg Tryz.prog 79 := ⟨Tryz.isAgg79⟩
instance : SizeOf Tryz.prog 79 1 := ⟨Tryz.sizeOf79⟩
instance : Und Tryz.prog 79 (Go.TypeDesc.slice 60) := ⟨Tryz.underlying79⟩
instance : ZeroOf Tryz.prog 79 (Go.Value.slice Option.none 0 0) := ⟨Tryz.zeroValue79⟩
instance : Body Tryz.prog 80 := ⟨Tryz.call80⟩
instance : NonAgg Tryz.prog 80 := ⟨Tryz.isAgg80⟩
instance : SizeOf Tryz.prog 80 1 := ⟨Tryz.sizeOf80⟩
instance : Und Tryz.prog 80 (Go.TypeDesc.func #[144] #[] Bool.false) := ⟨Tryz.underlying80⟩
instance : ZeroOf Tryz.prog 80 (Go.Value.nilFunc) := ⟨Tryz.zeroValue80⟩
instance : Body Tryz.prog 81 := ⟨Tryz.call81⟩
instance : NonAgg Tryz.prog 81 := ⟨Tryz.isAgg81⟩
instance : SizeOf Tryz.prog 81 1 := ⟨Tryz.sizeOf81⟩
instance : Und Tryz.prog 81 (Go.TypeDesc.func #[144] #[] Bool.false) := ⟨Tryz.underlying81⟩
instance : ZeroOf Tryz.prog 81 (Go.Value.nilFunc) := ⟨Tryz.zeroValue81⟩
instance : Body Tryz.prog 82 := ⟨Tryz.call82⟩
instance : NonAgg Tryz.prog 82 := ⟨Tryz.isAgg82⟩
instance : SizeOf Tryz.prog 82 1 := ⟨Tryz.sizeOf82⟩
instance : Und Tryz.prog 82 (Go.TypeDesc.func #[] #[81] Bool.false) := ⟨Tryz.underlying82⟩
instance : ZeroOf Tryz.prog 82 (Go.Value.nilFunc) := ⟨Tryz.zeroValue82⟩
instance : Body Tryz.prog 83 := ⟨Tryz.call83⟩
instance : NonAgg Tryz.prog 83 := ⟨Tryz.isAgg83⟩
instance : SizeOf Tryz.prog 83 1 := ⟨Tryz.sizeOf83⟩
instance : Und Tryz.prog 83 (Go.TypeDesc.tuple #[60, 29]) := ⟨Tryz.underlying83⟩
instance : ZeroOf Tryz.prog 83 (Go.Value.tuple #[Go.Value.agg #[Go.Value.int Go.IntKind.i64 0, Go.Value.slice Option.none 0 0], Go.Value.int Go.IntKind.i64 0]) := ⟨Tryz.zeroValue83⟩
instance : Body Tryz.prog 84 := ⟨Tryz.call84⟩
instance : NonAgg Tryz.prog 84 := ⟨Tryz.isAgg84⟩
instance : SizeOf Tryz.prog 84 1 := ⟨Tryz.sizeOf84⟩
instance : Und Tryz.prog 84 (Go.TypeDesc.func #[53] #[60, 29] Bool.false) := ⟨Tryz.underlying84⟩
instance : ZeroOf Tryz.prog 84 (Go.Value.nilFunc) := ⟨Tryz.zeroValue84⟩
instance : Body Tryz.prog 85 := ⟨Tryz.call85⟩
instance : NonAgg Tryz.prog 85 := ⟨Tryz.isAgg85⟩
instance : SizeOf Tryz.prog 85 1 := ⟨Tryz.sizeOf85⟩
instance : Und Tryz.prog 85 (Go.TypeDesc.func #[4] #[] Bool.false) := ⟨Tryz.underlying85⟩
instance : ZeroOf Tryz.prog 85 (Go.Value.nilFunc) := ⟨Tryz.zeroValue85⟩
instance : Body Tryz.prog 86 := ⟨Tryz.call86⟩
instance : NonAgg Tryz.prog 86 := ⟨Tryz.isAgg86⟩
instance : SizeOf Tryz.prog 86 1 := ⟨Tryz.sizeOf86⟩
instance : Und Tryz.prog 86 (Go.TypeDesc.tuple #[39, 2, 29]) := ⟨Tryz.underlying86⟩
instance : ZeroOf Tryz.prog 86 (Go.Value.tuple #[Go.Value.slice Option.none 0 0, Go.Value.int Go.IntKind.i64 0, Go.Value.int Go.IntKind.i64 0]) := ⟨Tryz.zeroValue86⟩
instance : Body Tryz.prog 87 := ⟨Tryz.call87⟩
instance : NonAgg Tryz.prog 87 := ⟨Tryz.isAgg87⟩
instance : SizeOf Tryz.prog 87 1 := ⟨Tryz.sizeOf87⟩
instance : Und Tryz.prog 87 (Go.TypeDesc.func #[39, 2, 79] #[39, 2, 29] Bool.true) := ⟨Tryz.underlying87⟩
instance : ZeroOf Tryz.prog 87 (Go.Value.nilFunc) := ⟨Tryz.zeroValue87⟩
instance : Body Tryz.prog 88 := ⟨Tryz.call88⟩
instance : NonAgg Tryz.prog 88 := ⟨Tryz.isAgg88⟩
instance : SizeOf Tryz.prog 88 1 := ⟨Tryz.sizeOf88⟩
instance : Und Tryz.prog 88 (Go.TypeDesc.func #[] #[36] Bool.false) := ⟨Tryz.underlying88⟩
instance : ZeroOf Tryz.prog 88 (Go.Value.nilFunc) := ⟨Tryz.zeroValue88⟩
instance : Body Tryz.prog 89 := ⟨Tryz.call89⟩
instance : NonAgg Tryz.prog 89 := ⟨Tryz.isAgg89⟩
instance : SizeOf Tryz.prog 89 1 := ⟨Tryz.sizeOf89⟩
instance : Und Tryz.prog 89 (Go.TypeDesc.func #[38, 3, 2, 36] #[38] Bool.false) := ⟨Tryz.underlying89⟩
instance : ZeroOf Tryz.prog 89 (Go.Value.nilFunc) := ⟨Tryz.zeroValue89⟩
instance : Body Tryz.prog 90 := ⟨Tryz.call90⟩
instance : NonAgg Tryz.prog 90 := ⟨Tryz.isAgg90⟩
instance : SizeOf Tryz.prog 90 1 := ⟨Tryz.sizeOf90⟩
instance : Und Tryz.prog 90 (Go.TypeDesc.pointer 159) := ⟨Tryz.underlying90⟩
instance : ZeroOf Tryz.prog 90 (Go.Value.pointer Option.none) := ⟨Tryz.zeroValue90⟩
instance : Body Tryz.prog 91 := ⟨Tryz.call91⟩
instance : NonAgg Tryz.prog 91 := ⟨Tryz.isAgg91⟩
instance : SizeOf Tryz.prog 91 1 := ⟨Tryz.sizeOf91⟩
instance : Und Tryz.prog 91 (Go.TypeDesc.tuple #[90, 29]) := ⟨Tryz.underlying91⟩
instance : ZeroOf Tryz.prog 91 (Go.Value.tuple #[Go.Value.pointer Option.none, Go.Value.int Go.IntKind.i64 0]) := ⟨Tryz.zeroValue91⟩
instance : Body Tryz.prog 92 := ⟨Tryz.call92⟩
instance : NonAgg Tryz.prog 92 := ⟨Tryz.isAgg92⟩
instance : SizeOf Tryz.prog 92 1 := ⟨Tryz.sizeOf92⟩
instance : Und Tryz.prog 92 (Go.TypeDesc.func #[49, 23] #[90, 29] Bool.false) := ⟨Tryz.underlying92⟩
instance : ZeroOf Tryz.prog 92 (Go.Value.nilFunc) := ⟨Tryz.zeroValue92⟩
instance : Body Tryz.prog 93 := ⟨Tryz.call93⟩
instance : NonAgg Tryz.prog 93 := ⟨Tryz.isAgg93⟩
instance : SizeOf Tryz.prog 93 1 := ⟨Tryz.sizeOf93⟩
instance : Und Tryz.prog 93 (Go.TypeDesc.func #[39] #[29] Bool.true) := ⟨Tryz.underlying93⟩
instance : ZeroOf Tryz.prog 93 (Go.Value.nilFunc) := ⟨Tryz.zeroValue93⟩
instance : Body Tryz.prog 94 := ⟨Tryz.call94⟩
instance : NonAgg Tryz.prog 94 := ⟨Tryz.isAgg94⟩
instance : SizeOf Tryz.prog 94 1 := ⟨Tryz.sizeOf94⟩
instance : Und Tryz.prog 94 (Go.TypeDesc.tuple #[3, 29]) := ⟨Tryz.underlying94⟩
instance : ZeroOf Tryz.prog 94 (Go.Value.tuple #[Go.Value.int Go.IntKind.i64 0, Go.Value.int Go.IntKind.i64 0]) := ⟨Tryz.zeroValue94⟩
instance : Body Tryz.prog 95 := ⟨Tryz.call95⟩
instance : NonAgg Tryz.prog 95 := ⟨Tryz.isAgg95⟩
instance : SizeOf Tryz.prog 95 1 := ⟨Tryz.sizeOf95⟩
instance : Und Tryz.prog 95 (Go.TypeDesc.func #[] #[3, 29] Bool.false) := ⟨Tryz.underlying95⟩
instance : ZeroOf Tryz.prog 95 (Go.Value.nilFunc) := ⟨Tryz.zeroValue95⟩
instance : Body Tryz.prog 96 := ⟨Tryz.call96⟩
instance : NonAgg Tryz.prog 96 := ⟨Tryz.isAgg96⟩
instance : SizeOf Tryz.prog 96 1 := ⟨Tryz.sizeOf96⟩
instance : Und Tryz.prog 96 (Go.TypeDesc.func #[49, 3, 38] #[29] Bool.false) := ⟨Tryz.underlying96⟩
instance : ZeroOf Tryz.prog 96 (Go.Value.nilFunc) := ⟨Tryz.zeroValue96⟩
instance : Body Tryz.prog 97 := ⟨Tryz.call97⟩
instance : NonAgg Tryz.prog 97 := ⟨Tryz.isAgg97⟩
instance : SizeOf Tryz.prog 97 1 := ⟨Tryz.sizeOf97⟩
instance : Und Tryz.prog 97 (Go.TypeDesc.func #[39, 39] #[4] Bool.false) := ⟨Tryz.underlying97⟩
instance : ZeroOf Tryz.prog 97 (Go.Value.nilFunc) := ⟨Tryz.zeroValue97⟩
instance : Body Tryz.prog 98 := ⟨Tryz.call98⟩
instance : NonAgg Tryz.prog 98 := ⟨Tryz.isAgg98⟩
instance : SizeOf Tryz.prog 98 1 := ⟨Tryz.sizeOf98⟩
instance : Und Tryz.prog 98 (Go.TypeDesc.slice 53) := ⟨Tryz.underlying98⟩
instance : ZeroOf Tryz.prog 98 (Go.Value.slice Option.none 0 0) := ⟨Tryz.zeroValue98⟩
instance : NonAgg Tryz.prog 99 := ⟨Tryz.isAgg99⟩
instance : SizeOf Tryz.prog 99 1 := ⟨Tryz.sizeOf99⟩
instance : Und Tryz.prog 99 (Go.TypeDesc.map 3 53) := ⟨Tryz.underlying99⟩
instance : ZeroOf Tryz.prog 99 (Go.Value.map Option.none) := ⟨Tryz.zeroValue99⟩
instance : Body Tryz.prog 100 := ⟨Tryz.call100⟩
instance : NonAgg Tryz.prog 100 := ⟨Tryz.isAgg100⟩
instance : SizeOf Tryz.prog 100 1 := ⟨Tryz.sizeOf100⟩
instance : Und Tryz.prog 100 (Go.TypeDesc.slice 4) := ⟨Tryz.underlying100⟩
instance : ZeroOf Tryz.prog 100 (Go.Value.slice Option.none 0 0) := ⟨Tryz.zeroValue100⟩
instance : Body Tryz.prog 101 := ⟨Tryz.call101⟩
instance : IsAggT Tryz.prog 101 := ⟨Tryz.isAgg101⟩
instance : SizeOf Tryz.prog 101 6 := ⟨Tryz.sizeOf101⟩
instance : Und Tryz.prog 101 (Go.TypeDesc.struct #[{ name := "sure", type := 98, offset := 0, embedded := Bool.false, tag := "", pkgPath := "cresset/disk", byteOffset := 0 }, { name := "dirty", type := 99, offset := 1, embedded := Bool.false, tag := "", pkgPath := "cresset/disk", byteOffset := 24 }, { name := "down", type := 4, offset := 2, embedded := Bool.false, tag := "", pkgPath := "cresset/disk", byteOffset := 32 }, { name := "calls", type := 2, offset := 3, embedded := Bool.false, tag := "", pkgPath := "cresset/disk", byteOffset := 40 }, { name := "fuse", type := 3, offset := 4, embedded := Bool.false, tag := "", pkgPath := "cresset/disk", byteOffset := 48 }, { name := "keep", type := 100, offset := 5, embedded := Bool.false, tag := "", pkgPath := "cresset/disk", byteOffset := 56 }]) := ⟨Tryz.underlying101⟩
instance : ZeroOf Tryz.prog 101 (Go.Value.agg #[Go.Value.slice Option.none 0 0, Go.Value.map Option.none, Go.Value.bool Bool.false, Go.Value.int Go.IntKind.i64 0, Go.Value.int Go.IntKind.i64 0, Go.Value.slice Option.none 0 0]) := ⟨Tryz.zeroValue101⟩
instance : Body Tryz.prog 102 := ⟨Tryz.call102⟩
instance : IsAggT Tryz.prog 102 := ⟨Tryz.isAgg102⟩
instance : SizeOf Tryz.prog 102 6 := ⟨Tryz.sizeOf102⟩
instance : Und Tryz.prog 102 (Go.TypeDesc.struct #[{ name := "sure", type := 98, offset := 0, embedded := Bool.false, tag := "", pkgPath := "cresset/disk", byteOffset := 0 }, { name := "dirty", type := 99, offset := 1, embedded := Bool.false, tag := "", pkgPath := "cresset/disk", byteOffset := 24 }, { name := "down", type := 4, offset := 2, embedded := Bool.false, tag := "", pkgPath := "cresset/disk", byteOffset := 32 }, { name := "calls", type := 2, offset := 3, embedded := Bool.false, tag := "", pkgPath := "cresset/disk", byteOffset := 40 }, { name := "fuse", type := 3, offset := 4, embedded := Bool.false, tag := "", pkgPath := "cresset/disk", byteOffset := 48 }, { name := "keep", type := 100, offset := 5, embedded := Bool.false, tag := "", pkgPath := "cresset/disk", byteOffset := 56 }]) := ⟨Tryz.underlying102⟩
instance : ZeroOf Tryz.prog 102 (Go.Value.agg #[Go.Value.slice Option.none 0 0, Go.Value.map Option.none, Go.Value.bool Bool.false, Go.Value.int Go.IntKind.i64 0, Go.Value.int Go.IntKind.i64 0, Go.Value.slice Option.none 0 0]) := ⟨Tryz.zeroValue102⟩
instance : Body Tryz.prog 103 := ⟨Tryz.call103⟩
instance : NonAgg Tryz.prog 103 := ⟨Tryz.isAgg103⟩
instance : SizeOf Tryz.prog 103 1 := ⟨Tryz.sizeOf103⟩
instance : Und Tryz.prog 103 (Go.TypeDesc.func #[164] #[53, 29] Bool.false) := ⟨Tryz.underlying103⟩
instance : ZeroOf Tryz.prog 103 (Go.Value.nilFunc) := ⟨Tryz.zeroValue103⟩
instance : Body Tryz.prog 104 := ⟨Tryz.call104⟩
instance : IsAggT Tryz.prog 104 := ⟨Tryz.isAgg104⟩
instance : SizeOf Tryz.prog 104 2 := ⟨Tryz.sizeOf104⟩
instance : Und Tryz.prog 104 (Go.TypeDesc.struct #[{ name := "Commit", type := 60, offset := 0, embedded := Bool.true, tag := "", pkgPath := "", byteOffset := 0 }]) := ⟨Tryz.underlying104⟩
instance : ZeroOf Tryz.prog 104 (Go.Value.agg #[Go.Value.int Go.IntKind.i64 0, Go.Value.slice Option.none 0 0]) := ⟨Tryz.zeroValue104⟩
instance : Body Tryz.prog 105 := ⟨Tryz.call105⟩
instance : IsAggT Tryz.prog 105 := ⟨Tryz.isAgg105⟩
instance : SizeOf Tryz.prog 105 2 := ⟨Tryz.sizeOf105⟩
instance : Und Tryz.prog 105 (Go.TypeDesc.struct #[{ name := "Commit", type := 60, offset := 0, embedded := Bool.true, tag := "", pkgPath := "", byteOffset := 0 }]) := ⟨Tryz.underlying105⟩
instance : ZeroOf Tryz.prog 105 (Go.Value.agg #[Go.Value.int Go.IntKind.i64 0, Go.Value.slice Option.none 0 0]) := ⟨Tryz.zeroValue105⟩
instance : Body Tryz.prog 106 := ⟨Tryz.call106⟩
instance : NonAgg Tryz.prog 106 := ⟨Tryz.isAgg106⟩
instance : SizeOf Tryz.prog 106 1 := ⟨Tryz.sizeOf106⟩
instance : Und Tryz.prog 106 (Go.TypeDesc.func #[53] #[53, 29] Bool.false) := ⟨Tryz.underlying106⟩
instance : ZeroOf Tryz.prog 106 (Go.Value.nilFunc) := ⟨Tryz.zeroValue106⟩
instance : Body Tryz.prog 107 := ⟨Tryz.call107⟩
instance : NonAgg Tryz.prog 107 := ⟨Tryz.isAgg107⟩
instance : SizeOf Tryz.prog 107 1 := ⟨Tryz.sizeOf107⟩
instance : Und Tryz.prog 107 (Go.TypeDesc.func #[] #[2] Bool.false) := ⟨Tryz.underlying107⟩
instance : ZeroOf Tryz.prog 107 (Go.Value.nilFunc) := ⟨Tryz.zeroValue107⟩
instance : Body Tryz.prog 108 := ⟨Tryz.call108⟩
instance : NonAgg Tryz.prog 108 := ⟨Tryz.isAgg108⟩
instance : SizeOf Tryz.prog 108 1 := ⟨Tryz.sizeOf108⟩
instance : Und Tryz.prog 108 (Go.TypeDesc.slice 114) := ⟨Tryz.underlying108⟩
instance : ZeroOf Tryz.prog 108 (Go.Value.slice Option.none 0 0) := ⟨Tryz.zeroValue108⟩
instance : Body Tryz.prog 109 := ⟨Tryz.call109⟩
instance : NonAgg Tryz.prog 109 := ⟨Tryz.isAgg109⟩
instance : SizeOf Tryz.prog 109 1 := ⟨Tryz.sizeOf109⟩
instance : Und Tryz.prog 109 (Go.TypeDesc.slice 2) := ⟨Tryz.underlying109⟩
instance : ZeroOf Tryz.prog 109 (Go.Value.slice Option.none 0 0) := ⟨Tryz.zeroValue109⟩
instance : Body Tryz.prog 110 := ⟨Tryz.call110⟩
instance : IsAggT Tryz.prog 110 := ⟨Tryz.isAgg110⟩
instance : SizeOf Tryz.prog 110 16 := ⟨Tryz.sizeOf110⟩
instance : Und Tryz.prog 110 (Go.TypeDesc.struct #[{ name := "d", type := 49, offset := 0, embedded := Bool.false, tag := "", pkgPath := "cresset/wal", byteOffset := 0 }, { name := "from", type := 3, offset := 1, embedded := Bool.false, tag := "", pkgPath := "cresset/wal", byteOffset := 8 }, { name := "sectors", type := 3, offset := 2, embedded := Bool.false, tag := "", pkgPath := "cresset/wal", byteOffset := 16 }, { name := "run", type := 2, offset := 3, embedded := Bool.false, tag := "", pkgPath := "cresset/wal", byteOffset := 24 }, { name := "began", type := 2, offset := 4, embedded := Bool.false, tag := "", pkgPath := "cresset/wal", byteOffset := 32 }, { name := "base", type := 2, offset := 5, embedded := Bool.false, tag := "", pkgPath := "cresset/wal", byteOffset := 40 }, { name := "row", type := 53, offset := 6, embedded := Bool.false, tag := "", pkgPath := "cresset/wal", byteOffset := 48 }, { name := "runs", type := 109, offset := 7, embedded := Bool.false, tag := "", pkgPath := "cresset/wal", byteOffset := 72 }, { name := "first", type := 36, offset := 8, embedded := Bool.false, tag := "", pkgPath := "cresset/wal", byteOffset := 96 }, { name := "l", type := 108, offset := 12, embedded := Bool.false, tag := "", pkgPath := "cresset/wal", byteOffset := 128 }, { name := "sure", type := 2, offset := 13, embedded := Bool.false, tag := "", pkgPath := "cresset/wal", byteOffset := 152 }, { name := "flushed", type := 2, offset := 14, embedded := Bool.false, tag := "", pkgPath := "cresset/wal", byteOffset := 160 }, { name := "dirty", type := 4, offset := 15, embedded := Bool.false, tag := "", pkgPath := "cresset/wal", byteOffset := 168 }]) := ⟨Tryz.underlying110⟩
instance : ZeroOf Tryz.prog 110 (Go.Value.agg #[Go.Value.pointer Option.none, Go.Value.int Go.IntKind.i64 0, Go.Value.int Go.IntKind.i64 0, Go.Value.int Go.IntKind.i64 0, Go.Value.int Go.IntKind.i64 0, Go.Value.int Go.IntKind.i64 0, Go.Value.slice Option.none 0 0, Go.Value.slice Option.none 0 0, Go.Value.int Go.IntKind.i64 0, Go.Value.int Go.IntKind.i64 0, Go.Value.int Go.IntKind.i64 0, Go.Value.int Go.IntKind.i64 0, Go.Value.slice Option.none 0 0, Go.Value.int Go.IntKind.i64 0, Go.Value.int Go.IntKind.i64 0, Go.Value.bool Bool.false]) := ⟨Tryz.zeroValue110⟩
instance : Body Tryz.prog 111 := ⟨Tryz.call111⟩
instance : IsAggT Tryz.prog 111 := ⟨Tryz.isAgg111⟩
instance : SizeOf Tryz.prog 111 16 := ⟨Tryz.sizeOf111⟩
instance : Und Tryz.prog 111 (Go.TypeDesc.struct #[{ name := "d", type := 49, offset := 0, embedded := Bool.false, tag := "", pkgPath := "cresset/wal", byteOffset := 0 }, { name := "from", type := 3, offset := 1, embedded := Bool.false, tag := "", pkgPath := "cresset/wal", byteOffset := 8 }, { name := "sectors", type := 3, offset := 2, embedded := Bool.false, tag := "", pkgPath := "cresset/wal", byteOffset := 16 }, { name := "run", type := 2, offset := 3, embedded := Bool.false, tag := "", pkgPath := "cresset/wal", byteOffset := 24 }, { name := "began", type := 2, offset := 4, embedded := Bool.false, tag := "", pkgPath := "cresset/wal", byteOffset := 32 }, { name := "base", type := 2, offset := 5, embedded := Bool.false, tag := "", pkgPath := "cresset/wal", byteOffset := 40 }, { name := "row", type := 53, offset := 6, embedded := Bool.false, tag := "", pkgPath := "cresset/wal", byteOffset := 48 }, { name := "runs", type := 109, offset := 7, embedded := Bool.false, tag := "", pkgPath := "cresset/wal", byteOffset := 72 }, { name := "first", type := 36, offset := 8, embedded := Bool.false, tag := "", pkgPath := "cresset/wal", byteOffset := 96 }, { name := "l", type := 108, offset := 12, embedded := Bool.false, tag := "", pkgPath := "cresset/wal", byteOffset := 128 }, { name := "sure", type := 2, offset := 13, embedded := Bool.false, tag := "", pkgPath := "cresset/wal", byteOffset := 152 }, { name := "flushed", type := 2, offset := 14, embedded := Bool.false, tag := "", pkgPath := "cresset/wal", byteOffset := 160 }, { name := "dirty", type := 4, offset := 15, embedded := Bool.false, tag := "", pkgPath := "cresset/wal", byteOffset := 168 }]) := ⟨Tryz.underlying111⟩
instance : ZeroOf Tryz.prog 111 (Go.Value.agg #[Go.Value.pointer Option.none, Go.Value.int Go.IntKind.i64 0, Go.Value.int Go.IntKind.i64 0, Go.Value.int Go.IntKind.i64 0, Go.Value.int Go.IntKind.i64 0, Go.Value.int Go.IntKind.i64 0, Go.Value.slice Option.none 0 0, Go.Value.slice Option.none 0 0, Go.Value.int Go.IntKind.i64 0, Go.Value.int Go.IntKind.i64 0, Go.Value.int Go.IntKind.i64 0, Go.Value.int Go.IntKind.i64 0, Go.Value.slice Option.none 0 0, Go.Value.int Go.IntKind.i64 0, Go.Value.int Go.IntKind.i64 0, Go.Value.bool Bool.false]) := ⟨Tryz.zeroValue111⟩
instance : Body Tryz.prog 112 := ⟨Tryz.call112⟩
instance : NonAgg Tryz.prog 112 := ⟨Tryz.isAgg112⟩
instance : SizeOf Tryz.prog 112 1 := ⟨Tryz.sizeOf112⟩
instance : Und Tryz.prog 112 (Go.TypeDesc.func #[53] #[53] Bool.false) := ⟨Tryz.underlying112⟩
instance : ZeroOf Tryz.prog 112 (Go.Value.nilFunc) := ⟨Tryz.zeroValue112⟩
instance : Body Tryz.prog 113 := ⟨Tryz.call113⟩
instance : IsAggT Tryz.prog 113 := ⟨Tryz.isAgg113⟩
instance : SizeOf Tryz.prog 113 2 := ⟨Tryz.sizeOf113⟩
instance : Und Tryz.prog 113 (Go.TypeDesc.struct #[{ name := "at", type := 2, offset := 0, embedded := Bool.false, tag := "", pkgPath := "cresset/wal", byteOffset := 0 }, { name := "data", type := 53, offset := 1, embedded := Bool.false, tag := "", pkgPath := "cresset/wal", byteOffset := 8 }]) := ⟨Tryz.underlying113⟩
instance : ZeroOf Tryz.prog 113 (Go.Value.agg #[Go.Value.int Go.IntKind.i64 0, Go.Value.slice Option.none 0 0]) := ⟨Tryz.zeroValue113⟩
instance : Body Tryz.prog 114 := ⟨Tryz.call114⟩
instance : IsAggT Tryz.prog 114 := ⟨Tryz.isAgg114⟩
instance : SizeOf Tryz.prog 114 2 := ⟨Tryz.sizeOf114⟩
instance : Und Tryz.prog 114 (Go.TypeDesc.struct #[{ name := "at", type := 2, offset := 0, embedded := Bool.false, tag := "", pkgPath := "cresset/wal", byteOffset := 0 }, { name := "data", type := 53, offset := 1, embedded := Bool.false, tag := "", pkgPath := "cresset/wal", byteOffset := 8 }]) := ⟨Tryz.underlying114⟩
instance : ZeroOf Tryz.prog 114 (Go.Value.agg #[Go.Value.int Go.IntKind.i64 0, Go.Value.slice Option.none 0 0]) := ⟨Tryz.zeroValue114⟩
instance : Body Tryz.prog 115 := ⟨Tryz.call115⟩
instance : NonAgg Tryz.prog 115 := ⟨Tryz.isAgg115⟩
instance : SizeOf Tryz.prog 115 1 := ⟨Tryz.sizeOf115⟩
instance : Und Tryz.prog 115 (Go.TypeDesc.func #[2, 2, 2, 53] #[53, 29] Bool.false) := ⟨Tryz.underlying115⟩
instance : ZeroOf Tryz.prog 115 (Go.Value.nilFunc) := ⟨Tryz.zeroValue115⟩
instance : Body Tryz.prog 116 := ⟨Tryz.call116⟩
instance : NonAgg Tryz.prog 116 := ⟨Tryz.isAgg116⟩
instance : SizeOf Tryz.prog 116 1 := ⟨Tryz.sizeOf116⟩
instance : Und Tryz.prog 116 (Go.TypeDesc.func #[3, 53] #[29] Bool.true) := ⟨Tryz.underlying116⟩
instance : ZeroOf Tryz.prog 116 (Go.Value.nilFunc) := ⟨Tryz.zeroValue116⟩
instance : Body Tryz.prog 117 := ⟨Tryz.call117⟩
instance : IsAggT Tryz.prog 117 := ⟨Tryz.isAgg117⟩
instance : SizeOf Tryz.prog 117 3 := ⟨Tryz.sizeOf117⟩
instance : Und Tryz.prog 117 (Go.TypeDesc.struct #[{ name := "Key", type := 9, offset := 0, embedded := Bool.false, tag := "", pkgPath := "", byteOffset := 0 }, { name := "Value", type := 9, offset := 1, embedded := Bool.false, tag := "", pkgPath := "", byteOffset := 16 }, { name := "TS", type := 2, offset := 2, embedded := Bool.false, tag := "", pkgPath := "", byteOffset := 32 }]) := ⟨Tryz.underlying117⟩
instance : ZeroOf Tryz.prog 117 (Go.Value.agg #[Go.Value.string { data := #[] }, Go.Value.string { data := #[] }, Go.Value.int Go.IntKind.i64 0]) := ⟨Tryz.zeroValue117⟩
instance : Body Tryz.prog 118 := ⟨Tryz.call118⟩
instance : IsAggT Tryz.prog 118 := ⟨Tryz.isAgg118⟩
instance : SizeOf Tryz.prog 118 3 := ⟨Tryz.sizeOf118⟩
instance : Und Tryz.prog 118 (Go.TypeDesc.struct #[{ name := "Key", type := 9, offset := 0, embedded := Bool.false, tag := "", pkgPath := "", byteOffset := 0 }, { name := "Value", type := 9, offset := 1, embedded := Bool.false, tag := "", pkgPath := "", byteOffset := 16 }, { name := "TS", type := 2, offset := 2, embedded := Bool.false, tag := "", pkgPath := "", byteOffset := 32 }]) := ⟨Tryz.underlying118⟩
instance : ZeroOf Tryz.prog 118 (Go.Value.agg #[Go.Value.string { data := #[] }, Go.Value.string { data := #[] }, Go.Value.int Go.IntKind.i64 0]) := ⟨Tryz.zeroValue118⟩
instance : Body Tryz.prog 119 := ⟨Tryz.call119⟩
instance : IsAggT Tryz.prog 119 := ⟨Tryz.isAgg119⟩
instance : SizeOf Tryz.prog 119 1 := ⟨Tryz.sizeOf119⟩
instance : Und Tryz.prog 119 (Go.TypeDesc.struct #[{ name := "e", type := 29, offset := 0, embedded := Bool.false, tag := "", pkgPath := "cresset/recover", byteOffset := 0 }]) := ⟨Tryz.underlying119⟩
instance : ZeroOf Tryz.prog 119 (Go.Value.agg #[Go.Value.int Go.IntKind.i64 0]) := ⟨Tryz.zeroValue119⟩
instance : Body Tryz.prog 120 := ⟨Tryz.call120⟩
instance : IsAggT Tryz.prog 120 := ⟨Tryz.isAgg120⟩
instance : SizeOf Tryz.prog 120 1 := ⟨Tryz.sizeOf120⟩
instance : Und Tryz.prog 120 (Go.TypeDesc.struct #[{ name := "e", type := 29, offset := 0, embedded := Bool.false, tag := "", pkgPath := "cresset/recover", byteOffset := 0 }]) := ⟨Tryz.underlying120⟩
instance : ZeroOf Tryz.prog 120 (Go.Value.agg #[Go.Value.int Go.IntKind.i64 0]) := ⟨Tryz.zeroValue120⟩
instance : Body Tryz.prog 121 := ⟨Tryz.call121⟩
instance : NonAgg Tryz.prog 121 := ⟨Tryz.isAgg121⟩
instance : SizeOf Tryz.prog 121 1 := ⟨Tryz.sizeOf121⟩
instance : Und Tryz.prog 121 (Go.TypeDesc.tuple #[120, 4]) := ⟨Tryz.underlying121⟩
instance : ZeroOf Tryz.prog 121 (Go.Value.tuple #[Go.Value.agg #[Go.Value.int Go.IntKind.i64 0], Go.Value.bool Bool.false]) := ⟨Tryz.zeroValue121⟩
instance : Body Tryz.prog 122 := ⟨Tryz.call122⟩
instance : IsAggT Tryz.prog 122 := ⟨Tryz.isAgg122⟩
instance : SizeOf Tryz.prog 122 16 := ⟨Tryz.sizeOf122⟩
instance : Und Tryz.prog 122 (Go.TypeDesc.array 2 38) := ⟨Tryz.underlying122⟩
instance : ZeroOf Tryz.prog 122 (Go.Value.agg #[Go.Value.int Go.IntKind.i64 0, Go.Value.int Go.IntKind.i64 0, Go.Value.int Go.IntKind.i64 0, Go.Value.int Go.IntKind.i64 0, Go.Value.int Go.IntKind.i64 0, Go.Value.int Go.IntKind.i64 0, Go.Value.int Go.IntKind.i64 0, Go.Value.int Go.IntKind.i64 0, Go.Value.int Go.IntKind.i64 0, Go.Value.int Go.IntKind.i64 0, Go.Value.int Go.IntKind.i64 0, Go.Value.int Go.IntKind.i64 0, Go.Value.int Go.IntKind.i64 0, Go.Value.int Go.IntKind.i64 0, Go.Value.int Go.IntKind.i64 0, Go.Value.int Go.IntKind.i64 0]) := ⟨Tryz.zeroValue122⟩
instance : IsAggT Tryz.prog 123 := ⟨Tryz.isAgg123⟩
instance : SizeOf Tryz.prog 123 2 := ⟨Tryz.sizeOf123⟩
instance : Und Tryz.prog 123 (Go.TypeDesc.array 2 29) := ⟨Tryz.underlying123⟩
instance : ZeroOf Tryz.prog 123 (Go.Value.agg #[Go.Value.int Go.IntKind.i64 0, Go.Value.int Go.IntKind.i64 0]) := ⟨Tryz.zeroValue123⟩
instance : Body Tryz.prog 124 := ⟨Tryz.call124⟩
instance : NonAgg Tryz.prog 124 := ⟨Tryz.isAgg124⟩
instance : SizeOf Tryz.prog 124 1 := ⟨Tryz.sizeOf124⟩
instance : Und Tryz.prog 124 (Go.TypeDesc.tuple #[122, 123]) := ⟨Tryz.underlying124⟩
instance : ZeroOf Tryz.prog 124 (Go.Value.tuple #[Go.Value.agg #[Go.Value.int Go.IntKind.i64 0, Go.Value.int Go.IntKind.i64 0, Go.Value.int Go.IntKind.i64 0, Go.Value.int Go.IntKind.i64 0, Go.Value.int Go.IntKind.i64 0, Go.Value.int Go.IntKind.i64 0, Go.Value.int Go.IntKind.i64 0, Go.Value.int Go.IntKind.i64 0, Go.Value.int Go.IntKind.i64 0, Go.Value.int Go.IntKind.i64 0, Go.Value.int Go.IntKind.i64 0, Go.Value.int Go.IntKind.i64 0, Go.Value.int Go.IntKind.i64 0, Go.Value.int Go.IntKind.i64 0, Go.Value.int Go.IntKind.i64 0, Go.Value.int Go.IntKind.i64 0], Go.Value.agg #[Go.Value.int Go.IntKind.i64 0, Go.Value.int Go.IntKind.i64 0]]) := ⟨Tryz.zeroValue124⟩
instance : Body Tryz.prog 125 := ⟨Tryz.call125⟩
instance : NonAgg Tryz.prog 125 := ⟨Tryz.isAgg125⟩
instance : SizeOf Tryz.prog 125 1 := ⟨Tryz.sizeOf125⟩
instance : Und Tryz.prog 125 (Go.TypeDesc.func #[49, 3] #[122, 123] Bool.false) := ⟨Tryz.underlying125⟩
instance : ZeroOf Tryz.prog 125 (Go.Value.nilFunc) := ⟨Tryz.zeroValue125⟩
instance : Body Tryz.prog 126 := ⟨Tryz.call126⟩
instance : NonAgg Tryz.prog 126 := ⟨Tryz.isAgg126⟩
instance : SizeOf Tryz.prog 126 1 := ⟨Tryz.sizeOf126⟩
instance : Und Tryz.prog 126 (Go.TypeDesc.func #[49, 23] #[29] Bool.false) := ⟨Tryz.underlying126⟩
instance : ZeroOf Tryz.prog 126 (Go.Value.nilFunc) := ⟨Tryz.zeroValue126⟩
instance : Body Tryz.prog 127 := ⟨Tryz.call127⟩
instance : NonAgg Tryz.prog 127 := ⟨Tryz.isAgg127⟩
instance : SizeOf Tryz.prog 127 1 := ⟨Tryz.sizeOf127⟩
instance : Und Tryz.prog 127 (Go.TypeDesc.slice 129) := ⟨Tryz.underlying127⟩
instance : ZeroOf Tryz.prog 127 (Go.Value.slice Option.none 0 0) := ⟨Tryz.zeroValue127⟩
instance : Body Tryz.prog 128 := ⟨Tryz.call128⟩
instance : IsAggT Tryz.prog 128 := ⟨Tryz.isAgg128⟩
instance : SizeOf Tryz.prog 128 3 := ⟨Tryz.sizeOf128⟩
instance : Und Tryz.prog 128 (Go.TypeDesc.struct #[{ name := "Number", type := 3, offset := 0, embedded := Bool.false, tag := "", pkgPath := "", byteOffset := 0 }, { name := "List", type := 39, offset := 1, embedded := Bool.false, tag := "", pkgPath := "", byteOffset := 8 }, { name := "Last", type := 4, offset := 2, embedded := Bool.false, tag := "", pkgPath := "", byteOffset := 32 }]) := ⟨Tryz.underlying128⟩
instance : ZeroOf Tryz.prog 128 (Go.Value.agg #[Go.Value.int Go.IntKind.i64 0, Go.Value.slice Option.none 0 0, Go.Value.bool Bool.false]) := ⟨Tryz.zeroValue128⟩
instance : Body Tryz.prog 129 := ⟨Tryz.call129⟩
instance : IsAggT Tryz.prog 129 := ⟨Tryz.isAgg129⟩
instance : SizeOf Tryz.prog 129 3 := ⟨Tryz.sizeOf129⟩
instance : Und Tryz.prog 129 (Go.TypeDesc.struct #[{ name := "Number", type := 3, offset := 0, embedded := Bool.false, tag := "", pkgPath := "", byteOffset := 0 }, { name := "List", type := 39, offset := 1, embedded := Bool.false, tag := "", pkgPath := "", byteOffset := 8 }, { name := "Last", type := 4, offset := 2, embedded := Bool.false, tag := "", pkgPath := "", byteOffset := 32 }]) := ⟨Tryz.underlying129⟩
instance : ZeroOf Tryz.prog 129 (Go.Value.agg #[Go.Value.int Go.IntKind.i64 0, Go.Value.slice Option.none 0 0, Go.Value.bool Bool.false]) := ⟨Tryz.zeroValue129⟩
instance : Body Tryz.prog 130 := ⟨Tryz.call130⟩
instance : NonAgg Tryz.prog 130 := ⟨Tryz.isAgg130⟩
instance : SizeOf Tryz.prog 130 1 := ⟨Tryz.sizeOf130⟩
instance : Und Tryz.prog 130 (Go.TypeDesc.tuple #[129, 29]) := ⟨Tryz.underlying130⟩
instance : ZeroOf Tryz.prog 130 (Go.Value.tuple #[Go.Value.agg #[Go.Value.int Go.IntKind.i64 0, Go.Value.slice Option.none 0 0, Go.Value.bool Bool.false], Go.Value.int Go.IntKind.i64 0]) := ⟨Tryz.zeroValue130⟩
instance : Body Tryz.prog 131 := ⟨Tryz.call131⟩
instance : NonAgg Tryz.prog 131 := ⟨Tryz.isAgg131⟩
instance : SizeOf Tryz.prog 131 1 := ⟨Tryz.sizeOf131⟩
instance : Und Tryz.prog 131 (Go.TypeDesc.func #[49, 23, 3] #[129, 29] Bool.false) := ⟨Tryz.underlying131⟩
instance : ZeroOf Tryz.prog 131 (Go.Value.nilFunc) := ⟨Tryz.zeroValue131⟩
instance : Body Tryz.prog 132 := ⟨Tryz.call132⟩
instance : NonAgg Tryz.prog 132 := ⟨Tryz.isAgg132⟩
instance : SizeOf Tryz.prog 132 1 := ⟨Tryz.sizeOf132⟩
instance : Und Tryz.prog 132 (Go.TypeDesc.func #[2] #[4] Bool.false) := ⟨Tryz.underlying132⟩
instance : ZeroOf Tryz.prog 132 (Go.Value.nilFunc) := ⟨Tryz.zeroValue132⟩
instance : Body Tryz.prog 133 := ⟨Tryz.call133⟩
instance : NonAgg Tryz.prog 133 := ⟨Tryz.isAgg133⟩
instance : SizeOf Tryz.prog 133 1 := ⟨Tryz.sizeOf133⟩
instance : Und Tryz.prog 133 (Go.TypeDesc.slice 137) := ⟨Tryz.underlying133⟩
instance : ZeroOf Tryz.prog 133 (Go.Value.slice Option.none 0 0) := ⟨Tryz.zeroValue133⟩
instance : Body Tryz.prog 134 := ⟨Tryz.call134⟩
instance : NonAgg Tryz.prog 134 := ⟨Tryz.isAgg134⟩
instance : SizeOf Tryz.prog 134 1 := ⟨Tryz.sizeOf134⟩
instance : Und Tryz.prog 134 (Go.TypeDesc.tuple #[133, 29]) := ⟨Tryz.underlying134⟩
instance : ZeroOf Tryz.prog 134 (Go.Value.tuple #[Go.Value.slice Option.none 0 0, Go.Value.int Go.IntKind.i64 0]) := ⟨Tryz.zeroValue134⟩
instance : Body Tryz.prog 135 := ⟨Tryz.call135⟩
instance : NonAgg Tryz.prog 135 := ⟨Tryz.isAgg135⟩
instance : SizeOf Tryz.prog 135 1 := ⟨Tryz.sizeOf135⟩
instance : Und Tryz.prog 135 (Go.TypeDesc.func #[49, 3, 3] #[133, 29] Bool.false) := ⟨Tryz.underlying135⟩
instance : ZeroOf Tryz.prog 135 (Go.Value.nilFunc) := ⟨Tryz.zeroValue135⟩
instance : Body Tryz.prog 136 := ⟨Tryz.call136⟩
instance : IsAggT Tryz.prog 136 := ⟨Tryz.isAgg136⟩
instance : SizeOf Tryz.prog 136 5 := ⟨Tryz.sizeOf136⟩
instance : Und Tryz.prog 136 (Go.TypeDesc.struct #[{ name := "ok", type := 4, offset := 0, embedded := Bool.false, tag := "", pkgPath := "cresset/wal", byteOffset := 0 }, { name := "seq", type := 2, offset := 1, embedded := Bool.false, tag := "", pkgPath := "cresset/wal", byteOffset := 8 }, { name := "run", type := 2, offset := 2, embedded := Bool.false, tag := "", pkgPath := "cresset/wal", byteOffset := 16 }, { name := "began", type := 2, offset := 3, embedded := Bool.false, tag := "", pkgPath := "cresset/wal", byteOffset := 24 }, { name := "data", type := 53, offset := 4, embedded := Bool.false, tag := "", pkgPath := "cresset/wal", byteOffset := 32 }]) := ⟨Tryz.underlying136⟩
instance : ZeroOf Tryz.prog 136 (Go.Value.agg #[Go.Value.bool Bool.false, Go.Value.int Go.IntKind.i64 0, Go.Value.int Go.IntKind.i64 0, Go.Value.int Go.IntKind.i64 0, Go.Value.slice Option.none 0 0]) := ⟨Tryz.zeroValue136⟩
instance : Body Tryz.prog 137 := ⟨Tryz.call137⟩
instance : IsAggT Tryz.prog 137 := ⟨Tryz.isAgg137⟩
instance : SizeOf Tryz.prog 137 5 := ⟨Tryz.sizeOf137⟩
instance : Und Tryz.prog 137 (Go.TypeDesc.struct #[{ name := "ok", type := 4, offset := 0, embedded := Bool.false, tag := "", pkgPath := "cresset/wal", byteOffset := 0 }, { name := "seq", type := 2, offset := 1, embedded := Bool.false, tag := "", pkgPath := "cresset/wal", byteOffset := 8 }, { name := "run", type := 2, offset := 2, embedded := Bool.false, tag := "", pkgPath := "cresset/wal", byteOffset := 16 }, { name := "began", type := 2, offset := 3, embedded := Bool.false, tag := "", pkgPath := "cresset/wal", byteOffset := 24 }, { name := "data", type := 53, offset := 4, embedded := Bool.false, tag := "", pkgPath := "cresset/wal", byteOffset := 32 }]) := ⟨Tryz.underlying137⟩
instance : ZeroOf Tryz.prog 137 (Go.Value.agg #[Go.Value.bool Bool.false, Go.Value.int Go.IntKind.i64 0, Go.Value.int Go.IntKind.i64 0, Go.Value.int Go.IntKind.i64 0, Go.Value.slice Option.none 0 0]) := ⟨Tryz.zeroValue137⟩
instance : Body Tryz.prog 138 := ⟨Tryz.call138⟩
instance : NonAgg Tryz.prog 138 := ⟨Tryz.isAgg138⟩
instance : SizeOf Tryz.prog 138 1 := ⟨Tryz.sizeOf138⟩
instance : Und Tryz.prog 138 (Go.TypeDesc.func #[179] #[] Bool.false) := ⟨Tryz.underlying138⟩
instance : ZeroOf Tryz.prog 138 (Go.Value.nilFunc) := ⟨Tryz.zeroValue138⟩
instance : Body Tryz.prog 139 := ⟨Tryz.call139⟩
instance : NonAgg Tryz.prog 139 := ⟨Tryz.isAgg139⟩
instance : SizeOf Tryz.prog 139 1 := ⟨Tryz.sizeOf139⟩
instance : Und Tryz.prog 139 (Go.TypeDesc.func #[179] #[] Bool.false) := ⟨Tryz.underlying139⟩
instance : ZeroOf Tryz.prog 139 (Go.Value.nilFunc) := ⟨Tryz.zeroValue139⟩
instance : Body Tryz.prog 140 := ⟨Tryz.call140⟩
instance : NonAgg Tryz.prog 140 := ⟨Tryz.isAgg140⟩
instance : SizeOf Tryz.prog 140 1 := ⟨Tryz.sizeOf140⟩
instance : Und Tryz.prog 140 (Go.TypeDesc.func #[133, 2, 2] #[139] Bool.false) := ⟨Tryz.underlying140⟩
instance : ZeroOf Tryz.prog 140 (Go.Value.nilFunc) := ⟨Tryz.zeroValue140⟩
instance : Body Tryz.prog 141 := ⟨Tryz.call141⟩
instance : NonAgg Tryz.prog 141 := ⟨Tryz.isAgg141⟩
instance : SizeOf Tryz.prog 141 1 := ⟨Tryz.sizeOf141⟩
instance : Und Tryz.prog 141 (Go.TypeDesc.tuple #[53, 3, 29]) := ⟨Tryz.underlying141⟩
instance : ZeroOf Tryz.prog 141 (Go.Value.tuple #[Go.Value.slice Option.none 0 0, Go.Value.int Go.IntKind.i64 0, Go.Value.int Go.IntKind.i64 0]) := ⟨Tryz.zeroValue141⟩
instance : Body Tryz.prog 142 := ⟨Tryz.call142⟩
instance : NonAgg Tryz.prog 142 := ⟨Tryz.isAgg142⟩
instance : SizeOf Tryz.prog 142 1 := ⟨Tryz.sizeOf142⟩
instance : Und Tryz.prog 142 (Go.TypeDesc.func #[53] #[53, 3, 29] Bool.false) := ⟨Tryz.underlying142⟩
instance : ZeroOf Tryz.prog 142 (Go.Value.nilFunc) := ⟨Tryz.zeroValue142⟩
instance : Body Tryz.prog 143 := ⟨Tryz.call143⟩
instance : NonAgg Tryz.prog 143 := ⟨Tryz.isAgg143⟩
instance : SizeOf Tryz.prog 143 1 := ⟨Tryz.sizeOf143⟩
instance : Und Tryz.prog 143 (Go.TypeDesc.func #[108] #[108] Bool.false) := ⟨Tryz.underlying143⟩
instance : ZeroOf Tryz.prog 143 (Go.Value.nilFunc) := ⟨Tryz.zeroValue143⟩
instance : Body Tryz.prog 144 := ⟨Tryz.call144⟩
instance : NonAgg Tryz.prog 144 := ⟨Tryz.isAgg144⟩
instance : SizeOf Tryz.prog 144 1 := ⟨Tryz.sizeOf144⟩
instance : Und Tryz.prog 144 (Go.TypeDesc.func #[2, 53] #[4] Bool.false) := ⟨Tryz.underlying144⟩
instance : ZeroOf Tryz.prog 144 (Go.Value.nilFunc) := ⟨Tryz.zeroValue144⟩
instance : Body Tryz.prog 145 := ⟨Tryz.call145⟩
instance : NonAgg Tryz.prog 145 := ⟨Tryz.isAgg145⟩
instance : SizeOf Tryz.prog 145 1 := ⟨Tryz.sizeOf145⟩
instance : Und Tryz.prog 145 (Go.TypeDesc.pointer 147) := ⟨Tryz.underlying145⟩
instance : ZeroOf Tryz.prog 145 (Go.Value.pointer Option.none) := ⟨Tryz.zeroValue145⟩
instance : IsAggT Tryz.prog 146 := ⟨Tryz.isAgg146⟩
instance : SizeOf Tryz.prog 146 3 := ⟨Tryz.sizeOf146⟩
instance : Und Tryz.prog 146 (Go.TypeDesc.struct #[{ name := "b", type := 53, offset := 0, embedded := Bool.false, tag := "", pkgPath := "cresset/record", byteOffset := 0 }, { name := "at", type := 3, offset := 1, embedded := Bool.false, tag := "", pkgPath := "cresset/record", byteOffset := 24 }, { name := "e", type := 29, offset := 2, embedded := Bool.false, tag := "", pkgPath := "cresset/record", byteOffset := 32 }]) := ⟨Tryz.underlying146⟩
instance : ZeroOf Tryz.prog 146 (Go.Value.agg #[Go.Value.slice Option.none 0 0, Go.Value.int Go.IntKind.i64 0, Go.Value.int Go.IntKind.i64 0]) := ⟨Tryz.zeroValue146⟩
instance : IsAggT Tryz.prog 147 := ⟨Tryz.isAgg147⟩
instance : SizeOf Tryz.prog 147 3 := ⟨Tryz.sizeOf147⟩
instance : Und Tryz.prog 147 (Go.TypeDesc.struct #[{ name := "b", type := 53, offset := 0, embedded := Bool.false, tag := "", pkgPath := "cresset/record", byteOffset := 0 }, { name := "at", type := 3, offset := 1, embedded := Bool.false, tag := "", pkgPath := "cresset/record", byteOffset := 24 }, { name := "e", type := 29, offset := 2, embedded := Bool.false, tag := "", pkgPath := "cresset/record", byteOffset := 32 }]) := ⟨Tryz.underlying147⟩
instance : ZeroOf Tryz.prog 147 (Go.Value.agg #[Go.Value.slice Option.none 0 0, Go.Value.int Go.IntKind.i64 0, Go.Value.int Go.IntKind.i64 0]) := ⟨Tryz.zeroValue147⟩
instance : NonAgg Tryz.prog 148 := ⟨Tryz.isAgg148⟩
instance : SizeOf Tryz.prog 148 1 := ⟨Tryz.sizeOf148⟩
instance : Und Tryz.prog 148 (Go.TypeDesc.func #[3] #[3] Bool.false) := ⟨Tryz.underlying148⟩
instance : ZeroOf Tryz.prog 148 (Go.Value.nilFunc) := ⟨Tryz.zeroValue148⟩
instance : NonAgg Tryz.prog 149 := ⟨Tryz.isAgg149⟩
instance : SizeOf Tryz.prog 149 1 := ⟨Tryz.sizeOf149⟩
instance : Und Tryz.prog 149 (Go.TypeDesc.func #[] #[57] Bool.false) := ⟨Tryz.underlying149⟩
instance : ZeroOf Tryz.prog 149 (Go.Value.nilFunc) := ⟨Tryz.zeroValue149⟩
instance : NonAgg Tryz.prog 150 := ⟨Tryz.isAgg150⟩
instance : SizeOf Tryz.prog 150 1 := ⟨Tryz.sizeOf150⟩
instance : Und Tryz.prog 150 (Go.TypeDesc.func #[164] #[29] Bool.false) := ⟨Tryz.underlying150⟩
instance : ZeroOf Tryz.prog 150 (Go.Value.nilFunc) := ⟨Tryz.zeroValue150⟩
instance : NonAgg Tryz.prog 151 := ⟨Tryz.isAgg151⟩
instance : SizeOf Tryz.prog 151 1 := ⟨Tryz.sizeOf151⟩
instance : Und Tryz.prog 151 (Go.TypeDesc.func #[39] #[39] Bool.false) := ⟨Tryz.underlying151⟩
instance : ZeroOf Tryz.prog 151 (Go.Value.nilFunc) := ⟨Tryz.zeroValue151⟩
instance : NonAgg Tryz.prog 152 := ⟨Tryz.isAgg152⟩
instance : SizeOf Tryz.prog 152 1 := ⟨Tryz.sizeOf152⟩
instance : Und Tryz.prog 152 (Go.TypeDesc.func #[60] #[29] Bool.false) := ⟨Tryz.underlying152⟩
instance : ZeroOf Tryz.prog 152 (Go.Value.nilFunc) := ⟨Tryz.zeroValue152⟩
instance : NonAgg Tryz.prog 153 := ⟨Tryz.isAgg153⟩
instance : SizeOf Tryz.prog 153 1 := ⟨Tryz.sizeOf153⟩
instance : Und Tryz.prog 153 (Go.TypeDesc.tuple #[3, 4]) := ⟨Tryz.underlying153⟩
instance : ZeroOf Tryz.prog 153 (Go.Value.tuple #[Go.Value.int Go.IntKind.i64 0, Go.Value.bool Bool.false]) := ⟨Tryz.zeroValue153⟩
instance : NonAgg Tryz.prog 154 := ⟨Tryz.isAgg154⟩
instance : SizeOf Tryz.prog 154 1 := ⟨Tryz.sizeOf154⟩
instance : Und Tryz.prog 154 (Go.TypeDesc.func #[39, 9] #[3, 4] Bool.false) := ⟨Tryz.underlying154⟩
instance : ZeroOf Tryz.prog 154 (Go.Value.nilFunc) := ⟨Tryz.zeroValue154⟩
instance : NonAgg Tryz.prog 155 := ⟨Tryz.isAgg155⟩
instance : SizeOf Tryz.prog 155 1 := ⟨Tryz.sizeOf155⟩
instance : Und Tryz.prog 155 (Go.TypeDesc.func #[39, 3, 3] #[39] Bool.false) := ⟨Tryz.underlying155⟩
instance : ZeroOf Tryz.prog 155 (Go.Value.nilFunc) := ⟨Tryz.zeroValue155⟩
instance : NonAgg Tryz.prog 156 := ⟨Tryz.isAgg156⟩
instance : SizeOf Tryz.prog 156 1 := ⟨Tryz.sizeOf156⟩
instance : Und Tryz.prog 156 (Go.TypeDesc.func #[39, 3, 39] #[39] Bool.true) := ⟨Tryz.underlying156⟩
instance : ZeroOf Tryz.prog 156 (Go.Value.nilFunc) := ⟨Tryz.zeroValue156⟩
instance : NonAgg Tryz.prog 157 := ⟨Tryz.isAgg157⟩
instance : SizeOf Tryz.prog 157 1 := ⟨Tryz.sizeOf157⟩
instance : Und Tryz.prog 157 (Go.TypeDesc.func #[2, 2] #[36] Bool.false) := ⟨Tryz.underlying157⟩
instance : ZeroOf Tryz.prog 157 (Go.Value.nilFunc) := ⟨Tryz.zeroValue157⟩
instance : IsAggT Tryz.prog 158 := ⟨Tryz.isAgg158⟩
instance : SizeOf Tryz.prog 158 6 := ⟨Tryz.sizeOf158⟩
instance : Und Tryz.prog 158 (Go.TypeDesc.struct #[{ name := "d", type := 49, offset := 0, embedded := Bool.false, tag := "", pkgPath := "cresset/ckpt", byteOffset := 0 }, { name := "a", type := 23, offset := 1, embedded := Bool.false, tag := "", pkgPath := "cresset/ckpt", byteOffset := 8 }, { name := "l", type := 39, offset := 3, embedded := Bool.false, tag := "", pkgPath := "cresset/ckpt", byteOffset := 24 }, { name := "n", type := 3, offset := 4, embedded := Bool.false, tag := "", pkgPath := "cresset/ckpt", byteOffset := 48 }, { name := "done", type := 4, offset := 5, embedded := Bool.false, tag := "", pkgPath := "cresset/ckpt", byteOffset := 56 }]) := ⟨Tryz.underlying158⟩
instance : ZeroOf Tryz.prog 158 (Go.Value.agg #[Go.Value.pointer Option.none, Go.Value.int Go.IntKind.i64 0, Go.Value.int Go.IntKind.i64 0, Go.Value.slice Option.none 0 0, Go.Value.int Go.IntKind.i64 0, Go.Value.bool Bool.false]) := ⟨Tryz.zeroValue158⟩
instance : IsAggT Tryz.prog 159 := ⟨Tryz.isAgg159⟩
instance : SizeOf Tryz.prog 159 6 := ⟨Tryz.sizeOf159⟩
instance : Und Tryz.prog 159 (Go.TypeDesc.struct #[{ name := "d", type := 49, offset := 0, embedded := Bool.false, tag := "", pkgPath := "cresset/ckpt", byteOffset := 0 }, { name := "a", type := 23, offset := 1, embedded := Bool.false, tag := "", pkgPath := "cresset/ckpt", byteOffset := 8 }, { name := "l", type := 39, offset := 3, embedded := Bool.false, tag := "", pkgPath := "cresset/ckpt", byteOffset := 24 }, { name := "n", type := 3, offset := 4, embedded := Bool.false, tag := "", pkgPath := "cresset/ckpt", byteOffset := 48 }, { name := "done", type := 4, offset := 5, embedded := Bool.false, tag := "", pkgPath := "cresset/ckpt", byteOffset := 56 }]) := ⟨Tryz.underlying159⟩
instance : ZeroOf Tryz.prog 159 (Go.Value.agg #[Go.Value.pointer Option.none, Go.Value.int Go.IntKind.i64 0, Go.Value.int Go.IntKind.i64 0, Go.Value.slice Option.none 0 0, Go.Value.int Go.IntKind.i64 0, Go.Value.bool Bool.false]) := ⟨Tryz.zeroValue159⟩
instance : NonAgg Tryz.prog 160 := ⟨Tryz.isAgg160⟩
instance : SizeOf Tryz.prog 160 1 := ⟨Tryz.sizeOf160⟩
instance : Und Tryz.prog 160 (Go.TypeDesc.func #[49, 23, 129] #[29] Bool.false) := ⟨Tryz.underlying160⟩
instance : ZeroOf Tryz.prog 160 (Go.Value.nilFunc) := ⟨Tryz.zeroValue160⟩
instance : NonAgg Tryz.prog 161 := ⟨Tryz.isAgg161⟩
instance : SizeOf Tryz.prog 161 1 := ⟨Tryz.sizeOf161⟩
instance : Und Tryz.prog 161 (Go.TypeDesc.func #[38] #[53, 29] Bool.false) := ⟨Tryz.underlying161⟩
instance : ZeroOf Tryz.prog 161 (Go.Value.nilFunc) := ⟨Tryz.zeroValue161⟩
instance : NonAgg Tryz.prog 162 := ⟨Tryz.isAgg162⟩
instance : SizeOf Tryz.prog 162 1 := ⟨Tryz.sizeOf162⟩
instance : Und Tryz.prog 162 (Go.TypeDesc.func #[3, 38] #[3] Bool.false) := ⟨Tryz.underlying162⟩
instance : ZeroOf Tryz.prog 162 (Go.Value.nilFunc) := ⟨Tryz.zeroValue162⟩
instance : NonAgg Tryz.prog 163 := ⟨Tryz.isAgg163⟩
instance : SizeOf Tryz.prog 163 1 := ⟨Tryz.sizeOf163⟩
instance : Und Tryz.prog 163 (Go.TypeDesc.interface #[("cresset/record.check", 63), ("cresset/record.put", 112)]) := ⟨Tryz.underlying163⟩
instance : ZeroOf Tryz.prog 163 (Go.Value.nilIface) := ⟨Tryz.zeroValue163⟩
instance : Body Tryz.prog 164 := ⟨Tryz.call164⟩
instance : NonAgg Tryz.prog 164 := ⟨Tryz.isAgg164⟩
instance : SizeOf Tryz.prog 164 1 := ⟨Tryz.sizeOf164⟩
instance : Und Tryz.prog 164 (Go.TypeDesc.interface #[("cresset/record.check", 63), ("cresset/record.put", 112)]) := ⟨Tryz.underlying164⟩
instance : ZeroOf Tryz.prog 164 (Go.Value.nilIface) := ⟨Tryz.zeroValue164⟩
instance : Body Tryz.prog 165 := ⟨Tryz.call165⟩
instance : NonAgg Tryz.prog 165 := ⟨Tryz.isAgg165⟩
instance : SizeOf Tryz.prog 165 1 := ⟨Tryz.sizeOf165⟩
instance : Und Tryz.prog 165 (Go.TypeDesc.int Go.IntKind.u32) := ⟨Tryz.underlying165⟩
instance : ZeroOf Tryz.prog 165 (Go.Value.int Go.IntKind.u32 0) := ⟨Tryz.zeroValue165⟩
instance : Body Tryz.prog 166 := ⟨Tryz.call166⟩
instance : NonAgg Tryz.prog 166 := ⟨Tryz.isAgg166⟩
instance : SizeOf Tryz.prog 166 1 := ⟨Tryz.sizeOf166⟩
instance : Und Tryz.prog 166 (Go.TypeDesc.func #[98] #[165] Bool.true) := ⟨Tryz.underlying166⟩
instance : ZeroOf Tryz.prog 166 (Go.Value.nilFunc) := ⟨Tryz.zeroValue166⟩
instance : Body Tryz.prog 167 := ⟨Tryz.call167⟩
instance : NonAgg Tryz.prog 167 := ⟨Tryz.isAgg167⟩
instance : SizeOf Tryz.prog 167 1 := ⟨Tryz.sizeOf167⟩
instance : Und Tryz.prog 167 (Go.TypeDesc.func #[53, 2] #[53] Bool.false) := ⟨Tryz.underlying167⟩
instance : ZeroOf Tryz.prog 167 (Go.Value.nilFunc) := ⟨Tryz.zeroValue167⟩
instance : Body Tryz.prog 168 := ⟨Tryz.call168⟩
instance : NonAgg Tryz.prog 168 := ⟨Tryz.isAgg168⟩
instance : SizeOf Tryz.prog 168 1 := ⟨Tryz.sizeOf168⟩
instance : Und Tryz.prog 168 (Go.TypeDesc.int Go.IntKind.u64) := ⟨Tryz.underlying168⟩
instance : ZeroOf Tryz.prog 168 (Go.Value.int Go.IntKind.u64 0) := ⟨Tryz.zeroValue168⟩
instance : Body Tryz.prog 169 := ⟨Tryz.call169⟩
instance : NonAgg Tryz.prog 169 := ⟨Tryz.isAgg169⟩
instance : SizeOf Tryz.prog 169 1 := ⟨Tryz.sizeOf169⟩
instance : Und Tryz.prog 169 (Go.TypeDesc.func #[170, 3] #[53] Bool.false) := ⟨Tryz.underlying169⟩
instance : ZeroOf Tryz.prog 169 (Go.Value.nilFunc) := ⟨Tryz.zeroValue169⟩
instance : Body Tryz.prog 170 := ⟨Tryz.call170⟩
instance : NonAgg Tryz.prog 170 := ⟨Tryz.isAgg170⟩
instance : SizeOf Tryz.prog 170 1 := ⟨Tryz.sizeOf170⟩
instance : Und Tryz.prog 170 (Go.TypeDesc.int Go.IntKind.u64) := ⟨Tryz.underlying170⟩
instance : ZeroOf Tryz.prog 170 (Go.Value.int Go.IntKind.u64 0) := ⟨Tryz.zeroValue170⟩
instance : Body Tryz.prog 171 := ⟨Tryz.call171⟩
instance : IsAggT Tryz.prog 171 := ⟨Tryz.isAgg171⟩
instance : SizeOf Tryz.prog 171 6 := ⟨Tryz.sizeOf171⟩
instance : Und Tryz.prog 171 (Go.TypeDesc.array 6 53) := ⟨Tryz.underlying171⟩
instance : ZeroOf Tryz.prog 171 (Go.Value.agg #[Go.Value.slice Option.none 0 0, Go.Value.slice Option.none 0 0, Go.Value.slice Option.none 0 0, Go.Value.slice Option.none 0 0, Go.Value.slice Option.none 0 0, Go.Value.slice Option.none 0 0]) := ⟨Tryz.zeroValue171⟩
instance : Body Tryz.prog 172 := ⟨Tryz.call172⟩
instance : NonAgg Tryz.prog 172 := ⟨Tryz.isAgg172⟩
instance : SizeOf Tryz.prog 172 1 := ⟨Tryz.sizeOf172⟩
instance : Und Tryz.prog 172 (Go.TypeDesc.func #[3] #[29] Bool.false) := ⟨Tryz.underlying172⟩
instance : ZeroOf Tryz.prog 172 (Go.Value.nilFunc) := ⟨Tryz.zeroValue172⟩
instance : Body Tryz.prog 173 := ⟨Tryz.call173⟩
instance : NonAgg Tryz.prog 173 := ⟨Tryz.isAgg173⟩
instance : SizeOf Tryz.prog 173 1 := ⟨Tryz.sizeOf173⟩
instance : Und Tryz.prog 173 (Go.TypeDesc.func #[100] #[] Bool.false) := ⟨Tryz.underlying173⟩
instance : ZeroOf Tryz.prog 173 (Go.Value.nilFunc) := ⟨Tryz.zeroValue173⟩
instance : Body Tryz.prog 174 := ⟨Tryz.call174⟩
instance : NonAgg Tryz.prog 174 := ⟨Tryz.isAgg174⟩
instance : SizeOf Tryz.prog 174 1 := ⟨Tryz.sizeOf174⟩
instance : Und Tryz.prog 174 (Go.TypeDesc.func #[3] #[53, 29] Bool.false) := ⟨Tryz.underlying174⟩
instance : ZeroOf Tryz.prog 174 (Go.Value.nilFunc) := ⟨Tryz.zeroValue174⟩
instance : NonAgg Tryz.prog 175 := ⟨Tryz.isAgg175⟩
instance : SizeOf Tryz.prog 175 1 := ⟨Tryz.sizeOf175⟩
instance : Und Tryz.prog 175 (Go.TypeDesc.func #[53] #[38, 29] Bool.false) := ⟨Tryz.underlying175⟩
instance : ZeroOf Tryz.prog 175 (Go.Value.nilFunc) := ⟨Tryz.zeroValue175⟩
instance : Body Tryz.prog 176 := ⟨Tryz.call176⟩
instance : NonAgg Tryz.prog 176 := ⟨Tryz.isAgg176⟩
instance : SizeOf Tryz.prog 176 1 := ⟨Tryz.sizeOf176⟩
instance : Und Tryz.prog 176 (Go.TypeDesc.func #[53] #[129, 29] Bool.false) := ⟨Tryz.underlying176⟩
instance : ZeroOf Tryz.prog 176 (Go.Value.nilFunc) := ⟨Tryz.zeroValue176⟩
instance : NonAgg Tryz.prog 177 := ⟨Tryz.isAgg177⟩
instance : SizeOf Tryz.prog 177 1 := ⟨Tryz.sizeOf177⟩
instance : Und Tryz.prog 177 (Go.TypeDesc.tuple #[2, 2, 2, 53, 29]) := ⟨Tryz.underlying177⟩
instance : ZeroOf Tryz.prog 177 (Go.Value.tuple #[Go.Value.int Go.IntKind.i64 0, Go.Value.int Go.IntKind.i64 0, Go.Value.int Go.IntKind.i64 0, Go.Value.slice Option.none 0 0, Go.Value.int Go.IntKind.i64 0]) := ⟨Tryz.zeroValue177⟩
instance : NonAgg Tryz.prog 178 := ⟨Tryz.isAgg178⟩
instance : SizeOf Tryz.prog 178 1 := ⟨Tryz.sizeOf178⟩
instance : Und Tryz.prog 178 (Go.TypeDesc.func #[53] #[2, 2, 2, 53, 29] Bool.false) := ⟨Tryz.underlying178⟩
instance : ZeroOf Tryz.prog 178 (Go.Value.nilFunc) := ⟨Tryz.zeroValue178⟩
instance : NonAgg Tryz.prog 179 := ⟨Tryz.isAgg179⟩
instance : SizeOf Tryz.prog 179 1 := ⟨Tryz.sizeOf179⟩
instance : Und Tryz.prog 179 (Go.TypeDesc.func #[137] #[4] Bool.false) := ⟨Tryz.underlying179⟩
instance : ZeroOf Tryz.prog 179 (Go.Value.nilFunc) := ⟨Tryz.zeroValue179⟩
instance : NonAgg Tryz.prog 180 := ⟨Tryz.isAgg180⟩
instance : SizeOf Tryz.prog 180 1 := ⟨Tryz.sizeOf180⟩
instance : Und Tryz.prog 180 (Go.TypeDesc.tuple #[2, 3, 29]) := ⟨Tryz.underlying180⟩
instance : ZeroOf Tryz.prog 180 (Go.Value.tuple #[Go.Value.int Go.IntKind.i64 0, Go.Value.int Go.IntKind.i64 0, Go.Value.int Go.IntKind.i64 0]) := ⟨Tryz.zeroValue180⟩
instance : NonAgg Tryz.prog 181 := ⟨Tryz.isAgg181⟩
instance : SizeOf Tryz.prog 181 1 := ⟨Tryz.sizeOf181⟩
instance : Und Tryz.prog 181 (Go.TypeDesc.func #[53] #[2, 3, 29] Bool.false) := ⟨Tryz.underlying181⟩
instance : ZeroOf Tryz.prog 181 (Go.Value.nilFunc) := ⟨Tryz.zeroValue181⟩
instance : NonAgg Tryz.prog 182 := ⟨Tryz.isAgg182⟩
instance : SizeOf Tryz.prog 182 1 := ⟨Tryz.sizeOf182⟩
instance : Und Tryz.prog 182 (Go.TypeDesc.func #[145, 181] #[2] Bool.false) := ⟨Tryz.underlying182⟩
instance : ZeroOf Tryz.prog 182 (Go.Value.nilFunc) := ⟨Tryz.zeroValue182⟩
instance : NonAgg Tryz.prog 183 := ⟨Tryz.isAgg183⟩
instance : SizeOf Tryz.prog 183 1 := ⟨Tryz.sizeOf183⟩
instance : Und Tryz.prog 183 (Go.TypeDesc.func #[] #[9] Bool.false) := ⟨Tryz.underlying183⟩
instance : ZeroOf Tryz.prog 183 (Go.Value.nilFunc) := ⟨Tryz.zeroValue183⟩
instance : NonAgg Tryz.prog 184 := ⟨Tryz.isAgg184⟩
instance : SizeOf Tryz.prog 184 1 := ⟨Tryz.sizeOf184⟩
instance : Und Tryz.prog 184 (Go.TypeDesc.func #[57] #[29] Bool.false) := ⟨Tryz.underlying184⟩
instance : ZeroOf Tryz.prog 184 (Go.Value.nilFunc) := ⟨Tryz.zeroValue184⟩
instance : NonAgg Tryz.prog 185 := ⟨Tryz.isAgg185⟩
instance : SizeOf Tryz.prog 185 1 := ⟨Tryz.sizeOf185⟩
instance : Und Tryz.prog 185 (Go.TypeDesc.func #[2, 2] #[4] Bool.false) := ⟨Tryz.underlying185⟩
instance : ZeroOf Tryz.prog 185 (Go.Value.nilFunc) := ⟨Tryz.zeroValue185⟩
instance : NonAgg Tryz.prog 186 := ⟨Tryz.isAgg186⟩
instance : SizeOf Tryz.prog 186 1 := ⟨Tryz.sizeOf186⟩
instance : Und Tryz.prog 186 (Go.TypeDesc.func #[208] #[29] Bool.true) := ⟨Tryz.underlying186⟩
instance : ZeroOf Tryz.prog 186 (Go.Value.nilFunc) := ⟨Tryz.zeroValue186⟩
instance : NonAgg Tryz.prog 187 := ⟨Tryz.isAgg187⟩
instance : SizeOf Tryz.prog 187 1 := ⟨Tryz.sizeOf187⟩
instance : Und Tryz.prog 187 (Go.TypeDesc.func #[4] #[29] Bool.false) := ⟨Tryz.underlying187⟩
instance : ZeroOf Tryz.prog 187 (Go.Value.nilFunc) := ⟨Tryz.zeroValue187⟩
instance : NonAgg Tryz.prog 188 := ⟨Tryz.isAgg188⟩
instance : SizeOf Tryz.prog 188 1 := ⟨Tryz.sizeOf188⟩
instance : Und Tryz.prog 188 (Go.TypeDesc.func #[39, 9, 190] #[3, 4] Bool.false) := ⟨Tryz.underlying188⟩
instance : ZeroOf Tryz.prog 188 (Go.Value.nilFunc) := ⟨Tryz.zeroValue188⟩
instance : NonAgg Tryz.prog 189 := ⟨Tryz.isAgg189⟩
instance : SizeOf Tryz.prog 189 1 := ⟨Tryz.sizeOf189⟩
instance : Und Tryz.prog 189 (Go.TypeDesc.func #[9, 9] #[3] Bool.false) := ⟨Tryz.underlying189⟩
instance : ZeroOf Tryz.prog 189 (Go.Value.nilFunc) := ⟨Tryz.zeroValue189⟩
instance : NonAgg Tryz.prog 190 := ⟨Tryz.isAgg190⟩
instance : SizeOf Tryz.prog 190 1 := ⟨Tryz.sizeOf190⟩
instance : Und Tryz.prog 190 (Go.TypeDesc.func #[118, 9] #[3] Bool.false) := ⟨Tryz.underlying190⟩
instance : ZeroOf Tryz.prog 190 (Go.Value.nilFunc) := ⟨Tryz.zeroValue190⟩
instance : NonAgg Tryz.prog 191 := ⟨Tryz.isAgg191⟩
instance : SizeOf Tryz.prog 191 1 := ⟨Tryz.sizeOf191⟩
instance : Und Tryz.prog 191 (Go.TypeDesc.func #[39, 3] #[] Bool.false) := ⟨Tryz.underlying191⟩
instance : ZeroOf Tryz.prog 191 (Go.Value.nilFunc) := ⟨Tryz.zeroValue191⟩
instance : NonAgg Tryz.prog 192 := ⟨Tryz.isAgg192⟩
instance : SizeOf Tryz.prog 192 1 := ⟨Tryz.sizeOf192⟩
instance : Und Tryz.prog 192 (Go.TypeDesc.func #[129] #[53, 29] Bool.false) := ⟨Tryz.underlying192⟩
instance : ZeroOf Tryz.prog 192 (Go.Value.nilFunc) := ⟨Tryz.zeroValue192⟩
instance : IsAggT Tryz.prog 193 := ⟨Tryz.isAgg193⟩
instance : SizeOf Tryz.prog 193 512 := ⟨Tryz.sizeOf193⟩
instance : Und Tryz.prog 193 (Go.TypeDesc.array 512 5) := ⟨Tryz.underlying193⟩
instance : ZeroOf Tryz.prog 193 (Go.Value.agg Go.Proofs.Tryz.zeroCells193) := ⟨Tryz.zeroValue193⟩
instance : NonAgg Tryz.prog 194 := ⟨Tryz.isAgg194⟩
instance : SizeOf Tryz.prog 194 1 := ⟨Tryz.sizeOf194⟩
instance : Und Tryz.prog 194 (Go.TypeDesc.func #[2] #[3] Bool.false) := ⟨Tryz.underlying194⟩
instance : ZeroOf Tryz.prog 194 (Go.Value.nilFunc) := ⟨Tryz.zeroValue194⟩
instance : NonAgg Tryz.prog 195 := ⟨Tryz.isAgg195⟩
instance : SizeOf Tryz.prog 195 1 := ⟨Tryz.sizeOf195⟩
instance : Und Tryz.prog 195 (Go.TypeDesc.slice 3) := ⟨Tryz.underlying195⟩
instance : ZeroOf Tryz.prog 195 (Go.Value.slice Option.none 0 0) := ⟨Tryz.zeroValue195⟩
instance : NonAgg Tryz.prog 196 := ⟨Tryz.isAgg196⟩
instance : SizeOf Tryz.prog 196 1 := ⟨Tryz.sizeOf196⟩
instance : Und Tryz.prog 196 (Go.TypeDesc.func #[] #[195] Bool.false) := ⟨Tryz.underlying196⟩
instance : ZeroOf Tryz.prog 196 (Go.Value.nilFunc) := ⟨Tryz.zeroValue196⟩
instance : NonAgg Tryz.prog 197 := ⟨Tryz.isAgg197⟩
instance : SizeOf Tryz.prog 197 1 := ⟨Tryz.sizeOf197⟩
instance : Und Tryz.prog 197 (Go.TypeDesc.func #[3] #[53] Bool.false) := ⟨Tryz.underlying197⟩
instance : ZeroOf Tryz.prog 197 (Go.Value.nilFunc) := ⟨Tryz.zeroValue197⟩
instance : IsAggT Tryz.prog 198 := ⟨Tryz.isAgg198⟩
instance : SizeOf Tryz.prog 198 3 := ⟨Tryz.sizeOf198⟩
instance : Und Tryz.prog 198 (Go.TypeDesc.struct #[{ name := "Chunk", type := 129, offset := 0, embedded := Bool.true, tag := "", pkgPath := "", byteOffset := 0 }]) := ⟨Tryz.underlying198⟩
instance : ZeroOf Tryz.prog 198 (Go.Value.agg #[Go.Value.int Go.IntKind.i64 0, Go.Value.slice Option.none 0 0, Go.Value.bool Bool.false]) := ⟨Tryz.zeroValue198⟩
instance : IsAggT Tryz.prog 199 := ⟨Tryz.isAgg199⟩
instance : SizeOf Tryz.prog 199 3 := ⟨Tryz.sizeOf199⟩
instance : Und Tryz.prog 199 (Go.TypeDesc.struct #[{ name := "Chunk", type := 129, offset := 0, embedded := Bool.true, tag := "", pkgPath := "", byteOffset := 0 }]) := ⟨Tryz.underlying199⟩
instance : ZeroOf Tryz.prog 199 (Go.Value.agg #[Go.Value.int Go.IntKind.i64 0, Go.Value.slice Option.none 0 0, Go.Value.bool Bool.false]) := ⟨Tryz.zeroValue199⟩
instance : NonAgg Tryz.prog 200 := ⟨Tryz.isAgg200⟩
instance : SizeOf Tryz.prog 200 1 := ⟨Tryz.sizeOf200⟩
instance : Und Tryz.prog 200 (Go.TypeDesc.func #[53] #[170] Bool.false) := ⟨Tryz.underlying200⟩
instance : ZeroOf Tryz.prog 200 (Go.Value.nilFunc) := ⟨Tryz.zeroValue200⟩
instance : NonAgg Tryz.prog 201 := ⟨Tryz.isAgg201⟩
instance : SizeOf Tryz.prog 201 1 := ⟨Tryz.sizeOf201⟩
instance : Und Tryz.prog 201 (Go.TypeDesc.func #[53, 202] #[4] Bool.false) := ⟨Tryz.underlying201⟩
instance : ZeroOf Tryz.prog 201 (Go.Value.nilFunc) := ⟨Tryz.zeroValue201⟩
instance : NonAgg Tryz.prog 202 := ⟨Tryz.isAgg202⟩
instance : SizeOf Tryz.prog 202 1 := ⟨Tryz.sizeOf202⟩
instance : Und Tryz.prog 202 (Go.TypeDesc.func #[5] #[4] Bool.false) := ⟨Tryz.underlying202⟩
instance : ZeroOf Tryz.prog 202 (Go.Value.nilFunc) := ⟨Tryz.zeroValue202⟩
instance : NonAgg Tryz.prog 203 := ⟨Tryz.isAgg203⟩
instance : SizeOf Tryz.prog 203 1 := ⟨Tryz.sizeOf203⟩
instance : Und Tryz.prog 203 (Go.TypeDesc.func #[145, 204] #[9] Bool.false) := ⟨Tryz.underlying203⟩
instance : ZeroOf Tryz.prog 203 (Go.Value.nilFunc) := ⟨Tryz.zeroValue203⟩
instance : NonAgg Tryz.prog 204 := ⟨Tryz.isAgg204⟩
instance : SizeOf Tryz.prog 204 1 := ⟨Tryz.sizeOf204⟩
instance : Und Tryz.prog 204 (Go.TypeDesc.func #[53] #[9, 3, 29] Bool.false) := ⟨Tryz.underlying204⟩
instance : ZeroOf Tryz.prog 204 (Go.Value.nilFunc) := ⟨Tryz.zeroValue204⟩
instance : NonAgg Tryz.prog 205 := ⟨Tryz.isAgg205⟩
instance : SizeOf Tryz.prog 205 1 := ⟨Tryz.sizeOf205⟩
instance : Und Tryz.prog 205 (Go.TypeDesc.func #[145, 206] #[4] Bool.false) := ⟨Tryz.underlying205⟩
instance : ZeroOf Tryz.prog 205 (Go.Value.nilFunc) := ⟨Tryz.zeroValue205⟩
instance : NonAgg Tryz.prog 206 := ⟨Tryz.isAgg206⟩
instance : SizeOf Tryz.prog 206 1 := ⟨Tryz.sizeOf206⟩
instance : Und Tryz.prog 206 (Go.TypeDesc.func #[53] #[4, 3, 29] Bool.false) := ⟨Tryz.underlying206⟩
instance : ZeroOf Tryz.prog 206 (Go.Value.nilFunc) := ⟨Tryz.zeroValue206⟩
instance : NonAgg Tryz.prog 207 := ⟨Tryz.isAgg207⟩
instance : SizeOf Tryz.prog 207 1 := ⟨Tryz.sizeOf207⟩
instance : Und Tryz.prog 207 (Go.TypeDesc.func #[9] #[29] Bool.false) := ⟨Tryz.underlying207⟩
instance : ZeroOf Tryz.prog 207 (Go.Value.nilFunc) := ⟨Tryz.zeroValue207⟩
instance : NonAgg Tryz.prog 208 := ⟨Tryz.isAgg208⟩
instance : SizeOf Tryz.prog 208 1 := ⟨Tryz.sizeOf208⟩
instance : Und Tryz.prog 208 (Go.TypeDesc.slice 29) := ⟨Tryz.underlying208⟩
instance : ZeroOf Tryz.prog 208 (Go.Value.slice Option.none 0 0) := ⟨Tryz.zeroValue208⟩
instance : IsAggT Tryz.prog 209 := ⟨Tryz.isAgg209⟩
instance : SizeOf Tryz.prog 209 8 := ⟨Tryz.sizeOf209⟩
instance : Und Tryz.prog 209 (Go.TypeDesc.struct #[{ name := "Master", type := 38, offset := 0, embedded := Bool.true, tag := "", pkgPath := "", byteOffset := 0 }]) := ⟨Tryz.underlying209⟩
instance : ZeroOf Tryz.prog 209 (Go.Value.agg #[Go.Value.int Go.IntKind.i64 0, Go.Value.int Go.IntKind.i64 0, Go.Value.int Go.IntKind.i64 0, Go.Value.int Go.IntKind.i64 0, Go.Value.int Go.IntKind.i64 0, Go.Value.int Go.IntKind.i64 0, Go.Value.int Go.IntKind.i64 0, Go.Value.int Go.IntKind.i64 0]) := ⟨Tryz.zeroValue209⟩
instance : IsAggT Tryz.prog 210 := ⟨Tryz.isAgg210⟩
instance : SizeOf Tryz.prog 210 8 := ⟨Tryz.sizeOf210⟩
instance : Und Tryz.prog 210 (Go.TypeDesc.struct #[{ name := "Master", type := 38, offset := 0, embedded := Bool.true, tag := "", pkgPath := "", byteOffset := 0 }]) := ⟨Tryz.underlying210⟩
instance : ZeroOf Tryz.prog 210 (Go.Value.agg #[Go.Value.int Go.IntKind.i64 0, Go.Value.int Go.IntKind.i64 0, Go.Value.int Go.IntKind.i64 0, Go.Value.int Go.IntKind.i64 0, Go.Value.int Go.IntKind.i64 0, Go.Value.int Go.IntKind.i64 0, Go.Value.int Go.IntKind.i64 0, Go.Value.int Go.IntKind.i64 0]) := ⟨Tryz.zeroValue210⟩
instance : NonAgg Tryz.prog 211 := ⟨Tryz.isAgg211⟩
instance : SizeOf Tryz.prog 211 1 := ⟨Tryz.sizeOf211⟩
instance : Und Tryz.prog 211 (Go.TypeDesc.func #[220] #[] Bool.false) := ⟨Tryz.underlying211⟩
instance : ZeroOf Tryz.prog 211 (Go.Value.nilFunc) := ⟨Tryz.zeroValue211⟩
instance : NonAgg Tryz.prog 212 := ⟨Tryz.isAgg212⟩
instance : SizeOf Tryz.prog 212 1 := ⟨Tryz.sizeOf212⟩
instance : Und Tryz.prog 212 (Go.TypeDesc.func #[220] #[] Bool.false) := ⟨Tryz.underlying212⟩
instance : ZeroOf Tryz.prog 212 (Go.Value.nilFunc) := ⟨Tryz.zeroValue212⟩
instance : NonAgg Tryz.prog 213 := ⟨Tryz.isAgg213⟩
instance : SizeOf Tryz.prog 213 1 := ⟨Tryz.sizeOf213⟩
instance : Und Tryz.prog 213 (Go.TypeDesc.func #[99] #[212] Bool.false) := ⟨Tryz.underlying213⟩
instance : ZeroOf Tryz.prog 213 (Go.Value.nilFunc) := ⟨Tryz.zeroValue213⟩
instance : NonAgg Tryz.prog 214 := ⟨Tryz.isAgg214⟩
instance : SizeOf Tryz.prog 214 1 := ⟨Tryz.sizeOf214⟩
instance : Und Tryz.prog 214 (Go.TypeDesc.func #[195] #[] Bool.false) := ⟨Tryz.underlying214⟩
instance : ZeroOf Tryz.prog 214 (Go.Value.nilFunc) := ⟨Tryz.zeroValue214⟩
instance : NonAgg Tryz.prog 215 := ⟨Tryz.isAgg215⟩
instance : SizeOf Tryz.prog 215 1 := ⟨Tryz.sizeOf215⟩
instance : Und Tryz.prog 215 (Go.TypeDesc.tuple #[53, 4]) := ⟨Tryz.underlying215⟩
instance : ZeroOf Tryz.prog 215 (Go.Value.tuple #[Go.Value.slice Option.none 0 0, Go.Value.bool Bool.false]) := ⟨Tryz.zeroValue215⟩
instance : NonAgg Tryz.prog 216 := ⟨Tryz.isAgg216⟩
instance : SizeOf Tryz.prog 216 1 := ⟨Tryz.sizeOf216⟩
instance : Und Tryz.prog 216 (Go.TypeDesc.func #[53, 202] #[3] Bool.false) := ⟨Tryz.underlying216⟩
instance : ZeroOf Tryz.prog 216 (Go.Value.nilFunc) := ⟨Tryz.zeroValue216⟩
instance : NonAgg Tryz.prog 217 := ⟨Tryz.isAgg217⟩
instance : SizeOf Tryz.prog 217 1 := ⟨Tryz.sizeOf217⟩
instance : Und Tryz.prog 217 (Go.TypeDesc.tuple #[9, 3, 29]) := ⟨Tryz.underlying217⟩
instance : ZeroOf Tryz.prog 217 (Go.Value.tuple #[Go.Value.string { data := #[] }, Go.Value.int Go.IntKind.i64 0, Go.Value.int Go.IntKind.i64 0]) := ⟨Tryz.zeroValue217⟩
instance : NonAgg Tryz.prog 218 := ⟨Tryz.isAgg218⟩
instance : SizeOf Tryz.prog 218 1 := ⟨Tryz.sizeOf218⟩
instance : Und Tryz.prog 218 (Go.TypeDesc.tuple #[4, 3, 29]) := ⟨Tryz.underlying218⟩
instance : ZeroOf Tryz.prog 218 (Go.Value.tuple #[Go.Value.bool Bool.false, Go.Value.int Go.IntKind.i64 0, Go.Value.int Go.IntKind.i64 0]) := ⟨Tryz.zeroValue218⟩
instance : NonAgg Tryz.prog 219 := ⟨Tryz.isAgg219⟩
instance : SizeOf Tryz.prog 219 1 := ⟨Tryz.sizeOf219⟩
instance : Und Tryz.prog 219 (Go.TypeDesc.func #[39] #[] Bool.false) := ⟨Tryz.underlying219⟩
instance : ZeroOf Tryz.prog 219 (Go.Value.nilFunc) := ⟨Tryz.zeroValue219⟩
instance : NonAgg Tryz.prog 220 := ⟨Tryz.isAgg220⟩
instance : SizeOf Tryz.prog 220 1 := ⟨Tryz.sizeOf220⟩
instance : Und Tryz.prog 220 (Go.TypeDesc.func #[3] #[4] Bool.false) := ⟨Tryz.underlying220⟩
instance : ZeroOf Tryz.prog 220 (Go.Value.nilFunc) := ⟨Tryz.zeroValue220⟩
instance : NonAgg Tryz.prog 221 := ⟨Tryz.isAgg221⟩
instance : SizeOf Tryz.prog 221 1 := ⟨Tryz.sizeOf221⟩
instance : Und Tryz.prog 221 (Go.TypeDesc.func #[195, 3, 3, 3] #[] Bool.false) := ⟨Tryz.underlying221⟩
instance : ZeroOf Tryz.prog 221 (Go.Value.nilFunc) := ⟨Tryz.zeroValue221⟩
instance : NonAgg Tryz.prog 222 := ⟨Tryz.isAgg222⟩
instance : SizeOf Tryz.prog 222 1 := ⟨Tryz.sizeOf222⟩
instance : Und Tryz.prog 222 (Go.TypeDesc.func #[168] #[3] Bool.false) := ⟨Tryz.underlying222⟩
instance : ZeroOf Tryz.prog 222 (Go.Value.nilFunc) := ⟨Tryz.zeroValue222⟩
instance : NonAgg Tryz.prog 223 := ⟨Tryz.isAgg223⟩
instance : SizeOf Tryz.prog 223 1 := ⟨Tryz.sizeOf223⟩
instance : Und Tryz.prog 223 (Go.TypeDesc.func #[195, 3, 3] #[] Bool.false) := ⟨Tryz.underlying223⟩
instance : ZeroOf Tryz.prog 223 (Go.Value.nilFunc) := ⟨Tryz.zeroValue223⟩
instance : NonAgg Tryz.prog 224 := ⟨Tryz.isAgg224⟩
instance : SizeOf Tryz.prog 224 1 := ⟨Tryz.sizeOf224⟩
instance : Und Tryz.prog 224 (Go.TypeDesc.int Go.IntKind.i64) := ⟨Tryz.underlying224⟩
instance : ZeroOf Tryz.prog 224 (Go.Value.int Go.IntKind.i64 0) := ⟨Tryz.zeroValue224⟩
instance : NonAgg Tryz.prog 225 := ⟨Tryz.isAgg225⟩
instance : SizeOf Tryz.prog 225 1 := ⟨Tryz.sizeOf225⟩
instance : Und Tryz.prog 225 (Go.TypeDesc.tuple #[3, 224]) := ⟨Tryz.underlying225⟩
instance : ZeroOf Tryz.prog 225 (Go.Value.tuple #[Go.Value.int Go.IntKind.i64 0, Go.Value.int Go.IntKind.i64 0]) := ⟨Tryz.zeroValue225⟩
instance : NonAgg Tryz.prog 226 := ⟨Tryz.isAgg226⟩
instance : SizeOf Tryz.prog 226 1 := ⟨Tryz.sizeOf226⟩
instance : Und Tryz.prog 226 (Go.TypeDesc.func #[195, 3, 3] #[3, 224] Bool.false) := ⟨Tryz.underlying226⟩
instance : ZeroOf Tryz.prog 226 (Go.Value.nilFunc) := ⟨Tryz.zeroValue226⟩
instance : NonAgg Tryz.prog 227 := ⟨Tryz.isAgg227⟩
instance : SizeOf Tryz.prog 227 1 := ⟨Tryz.sizeOf227⟩
instance : Und Tryz.prog 227 (Go.TypeDesc.func #[195, 3, 3] #[4] Bool.false) := ⟨Tryz.underlying227⟩
instance : ZeroOf Tryz.prog 227 (Go.Value.nilFunc) := ⟨Tryz.zeroValue227⟩
instance : NonAgg Tryz.prog 228 := ⟨Tryz.isAgg228⟩
instance : SizeOf Tryz.prog 228 1 := ⟨Tryz.sizeOf228⟩
instance : Und Tryz.prog 228 (Go.TypeDesc.func #[3, 3] #[4] Bool.false) := ⟨Tryz.underlying228⟩
instance : ZeroOf Tryz.prog 228 (Go.Value.nilFunc) := ⟨Tryz.zeroValue228⟩
instance : NonAgg Tryz.prog 229 := ⟨Tryz.isAgg229⟩
instance : SizeOf Tryz.prog 229 1 := ⟨Tryz.sizeOf229⟩
instance : Und Tryz.prog 229 (Go.TypeDesc.func #[195, 3, 3, 3] #[3] Bool.false) := ⟨Tryz.underlying229⟩
instance : ZeroOf Tryz.prog 229 (Go.Value.nilFunc) := ⟨Tryz.zeroValue229⟩
instance : NonAgg Tryz.prog 230 := ⟨Tryz.isAgg230⟩
instance : SizeOf Tryz.prog 230 1 := ⟨Tryz.sizeOf230⟩
instance : Und Tryz.prog 230 (Go.TypeDesc.func #[195, 3, 3, 3] #[3, 4] Bool.false) := ⟨Tryz.underlying230⟩
instance : ZeroOf Tryz.prog 230 (Go.Value.nilFunc) := ⟨Tryz.zeroValue230⟩
instance : NonAgg Tryz.prog 231 := ⟨Tryz.isAgg231⟩
instance : SizeOf Tryz.prog 231 1 := ⟨Tryz.sizeOf231⟩
instance : Und Tryz.prog 231 (Go.TypeDesc.func #[165] #[3] Bool.false) := ⟨Tryz.underlying231⟩
instance : ZeroOf Tryz.prog 231 (Go.Value.nilFunc) := ⟨Tryz.zeroValue231⟩
instance : NonAgg Tryz.prog 232 := ⟨Tryz.isAgg232⟩
instance : SizeOf Tryz.prog 232 1 := ⟨Tryz.sizeOf232⟩
instance : Und Tryz.prog 232 (Go.TypeDesc.func #[170] #[3] Bool.false) := ⟨Tryz.underlying232⟩
instance : ZeroOf Tryz.prog 232 (Go.Value.nilFunc) := ⟨Tryz.zeroValue232⟩
instance : NonAgg Tryz.prog 233 := ⟨Tryz.isAgg233⟩
instance : SizeOf Tryz.prog 233 1 := ⟨Tryz.sizeOf233⟩
instance : Und Tryz.prog 233 (Go.TypeDesc.int Go.IntKind.u64) := ⟨Tryz.underlying233⟩
instance : ZeroOf Tryz.prog 233 (Go.Value.int Go.IntKind.u64 0) := ⟨Tryz.zeroValue233⟩
instance : NonAgg Tryz.prog 234 := ⟨Tryz.isAgg234⟩
instance : SizeOf Tryz.prog 234 1 := ⟨Tryz.sizeOf234⟩
instance : Und Tryz.prog 234 (Go.TypeDesc.func #[3] #[168] Bool.false) := ⟨Tryz.underlying234⟩
instance : ZeroOf Tryz.prog 234 (Go.Value.nilFunc) := ⟨Tryz.zeroValue234⟩
instance : NonAgg Tryz.prog 235 := ⟨Tryz.isAgg235⟩
instance : SizeOf Tryz.prog 235 1 := ⟨Tryz.sizeOf235⟩
instance : Und Tryz.prog 235 (Go.TypeDesc.func #[] #[170] Bool.false) := ⟨Tryz.underlying235⟩
instance : ZeroOf Tryz.prog 235 (Go.Value.nilFunc) := ⟨Tryz.zeroValue235⟩
instance : NonAgg Tryz.prog 236 := ⟨Tryz.isAgg236⟩
instance : SizeOf Tryz.prog 236 1 := ⟨Tryz.sizeOf236⟩
instance : Und Tryz.prog 236 (Go.TypeDesc.func #[195, 3, 237] #[3] Bool.false) := ⟨Tryz.underlying236⟩
instance : ZeroOf Tryz.prog 236 (Go.Value.nilFunc) := ⟨Tryz.zeroValue236⟩
instance : NonAgg Tryz.prog 237 := ⟨Tryz.isAgg237⟩
instance : SizeOf Tryz.prog 237 1 := ⟨Tryz.sizeOf237⟩
instance : Und Tryz.prog 237 (Go.TypeDesc.pointer 3) := ⟨Tryz.underlying237⟩
instance : ZeroOf Tryz.prog 237 (Go.Value.pointer Option.none) := ⟨Tryz.zeroValue237⟩
instance : NonAgg Tryz.prog 238 := ⟨Tryz.isAgg238⟩
instance : SizeOf Tryz.prog 238 1 := ⟨Tryz.sizeOf238⟩
instance : Und Tryz.prog 238 (Go.TypeDesc.func #[195, 3, 3, 3, 237] #[3] Bool.false) := ⟨Tryz.underlying238⟩
instance : ZeroOf Tryz.prog 238 (Go.Value.nilFunc) := ⟨Tryz.zeroValue238⟩
instance : NonAgg Tryz.prog 239 := ⟨Tryz.isAgg239⟩
instance : SizeOf Tryz.prog 239 1 := ⟨Tryz.sizeOf239⟩
instance : Und Tryz.prog 239 (Go.TypeDesc.pointer 233) := ⟨Tryz.underlying239⟩
instance : ZeroOf Tryz.prog 239 (Go.Value.pointer Option.none) := ⟨Tryz.zeroValue239⟩
instance : NonAgg Tryz.prog 240 := ⟨Tryz.isAgg240⟩
instance : SizeOf Tryz.prog 240 1 := ⟨Tryz.sizeOf240⟩
instance : Und Tryz.prog 240 (Go.TypeDesc.tuple #[3, 3]) := ⟨Tryz.underlying240⟩
instance : ZeroOf Tryz.prog 240 (Go.Value.tuple #[Go.Value.int Go.IntKind.i64 0, Go.Value.int Go.IntKind.i64 0]) := ⟨Tryz.zeroValue240⟩
instance : NonAgg Tryz.prog 241 := ⟨Tryz.isAgg241⟩
instance : SizeOf Tryz.prog 241 1 := ⟨Tryz.sizeOf241⟩
instance : Und Tryz.prog 241 (Go.TypeDesc.func #[195, 3, 3, 237] #[3, 3] Bool.false) := ⟨Tryz.underlying241⟩
instance : ZeroOf Tryz.prog 241 (Go.Value.nilFunc) := ⟨Tryz.zeroValue241⟩
instance : IsAggT Tryz.prog 242 := ⟨Tryz.isAgg242⟩
instance : SizeOf Tryz.prog 242 4 := ⟨Tryz.sizeOf242⟩
instance : Und Tryz.prog 242 (Go.TypeDesc.struct #[{ name := "_interface", type := 17, offset := 0, embedded := Bool.false, tag := "", pkgPath := "runtime", byteOffset := 0 }, { name := "concrete", type := 17, offset := 1, embedded := Bool.false, tag := "", pkgPath := "runtime", byteOffset := 8 }, { name := "asserted", type := 17, offset := 2, embedded := Bool.false, tag := "", pkgPath := "runtime", byteOffset := 16 }, { name := "missingMethod", type := 9, offset := 3, embedded := Bool.false, tag := "", pkgPath := "runtime", byteOffset := 24 }]) := ⟨Tryz.underlying242⟩
instance : ZeroOf Tryz.prog 242 (Go.Value.agg #[Go.Value.pointer Option.none, Go.Value.pointer Option.none, Go.Value.pointer Option.none, Go.Value.string { data := #[] }]) := ⟨Tryz.zeroValue242⟩
instance : IsAggT Tryz.prog 243 := ⟨Tryz.isAgg243⟩
instance : SizeOf Tryz.prog 243 4 := ⟨Tryz.sizeOf243⟩
instance : Und Tryz.prog 243 (Go.TypeDesc.struct #[{ name := "_interface", type := 17, offset := 0, embedded := Bool.false, tag := "", pkgPath := "runtime", byteOffset := 0 }, { name := "concrete", type := 17, offset := 1, embedded := Bool.false, tag := "", pkgPath := "runtime", byteOffset := 8 }, { name := "asserted", type := 17, offset := 2, embedded := Bool.false, tag := "", pkgPath := "runtime", byteOffset := 16 }, { name := "missingMethod", type := 9, offset := 3, embedded := Bool.false, tag := "", pkgPath := "runtime", byteOffset := 24 }]) := ⟨Tryz.underlying243⟩
instance : ZeroOf Tryz.prog 243 (Go.Value.agg #[Go.Value.pointer Option.none, Go.Value.pointer Option.none, Go.Value.pointer Option.none, Go.Value.string { data := #[] }]) := ⟨Tryz.zeroValue243⟩
instance : IsAggT Tryz.prog 244 := ⟨Tryz.isAgg244⟩
instance : SizeOf Tryz.prog 244 0 := ⟨Tryz.sizeOf244⟩
instance : Und Tryz.prog 244 (Go.TypeDesc.array 0 16) := ⟨Tryz.underlying244⟩
instance : ZeroOf Tryz.prog 244 (Go.Value.agg #[]) := ⟨Tryz.zeroValue244⟩
instance : IsAggT Tryz.prog 245 := ⟨Tryz.isAgg245⟩
instance : SizeOf Tryz.prog 245 0 := ⟨Tryz.sizeOf245⟩
instance : Und Tryz.prog 245 (Go.TypeDesc.struct #[{ name := "_", type := 244, offset := 0, embedded := Bool.false, tag := "", pkgPath := "runtime", byteOffset := 0 }]) := ⟨Tryz.underlying245⟩
instance : ZeroOf Tryz.prog 245 (Go.Value.agg #[]) := ⟨Tryz.zeroValue245⟩
instance : IsAggT Tryz.prog 246 := ⟨Tryz.isAgg246⟩
instance : SizeOf Tryz.prog 246 0 := ⟨Tryz.sizeOf246⟩
instance : Und Tryz.prog 246 (Go.TypeDesc.struct #[{ name := "_", type := 244, offset := 0, embedded := Bool.false, tag := "", pkgPath := "runtime", byteOffset := 0 }]) := ⟨Tryz.underlying246⟩
instance : ZeroOf Tryz.prog 246 (Go.Value.agg #[]) := ⟨Tryz.zeroValue246⟩
instance : NonAgg Tryz.prog 247 := ⟨Tryz.isAgg247⟩
instance : SizeOf Tryz.prog 247 1 := ⟨Tryz.sizeOf247⟩
instance : Und Tryz.prog 247 (Go.TypeDesc.int Go.IntKind.u8) := ⟨Tryz.underlying247⟩
instance : ZeroOf Tryz.prog 247 (Go.Value.int Go.IntKind.u8 0) := ⟨Tryz.zeroValue247⟩
instance : NonAgg Tryz.prog 248 := ⟨Tryz.isAgg248⟩
instance : SizeOf Tryz.prog 248 1 := ⟨Tryz.sizeOf248⟩
instance : Und Tryz.prog 248 (Go.TypeDesc.int Go.IntKind.u8) := ⟨Tryz.underlying248⟩
instance : ZeroOf Tryz.prog 248 (Go.Value.int Go.IntKind.u8 0) := ⟨Tryz.zeroValue248⟩
instance : NonAgg Tryz.prog 249 := ⟨Tryz.isAgg249⟩
instance : SizeOf Tryz.prog 249 1 := ⟨Tryz.sizeOf249⟩
instance : Und Tryz.prog 249 (Go.TypeDesc.func #[262, 262] #[4] Bool.false) := ⟨Tryz.underlying249⟩
instance : ZeroOf Tryz.prog 249 (Go.Value.nilFunc) := ⟨Tryz.zeroValue249⟩
instance : NonAgg Tryz.prog 250 := ⟨Tryz.isAgg250⟩
instance : SizeOf Tryz.prog 250 1 := ⟨Tryz.sizeOf250⟩
instance : Und Tryz.prog 250 (Go.TypeDesc.pointer 5) := ⟨Tryz.underlying250⟩
instance : ZeroOf Tryz.prog 250 (Go.Value.pointer Option.none) := ⟨Tryz.zeroValue250⟩
instance : NonAgg Tryz.prog 251 := ⟨Tryz.isAgg251⟩
instance : SizeOf Tryz.prog 251 1 := ⟨Tryz.sizeOf251⟩
instance : Und Tryz.prog 251 (Go.TypeDesc.int Go.IntKind.i32) := ⟨Tryz.underlying251⟩
instance : ZeroOf Tryz.prog 251 (Go.Value.int Go.IntKind.i32 0) := ⟨Tryz.zeroValue251⟩
instance : NonAgg Tryz.prog 252 := ⟨Tryz.isAgg252⟩
instance : SizeOf Tryz.prog 252 1 := ⟨Tryz.sizeOf252⟩
instance : Und Tryz.prog 252 (Go.TypeDesc.int Go.IntKind.i32) := ⟨Tryz.underlying252⟩
instance : ZeroOf Tryz.prog 252 (Go.Value.int Go.IntKind.i32 0) := ⟨Tryz.zeroValue252⟩
instance : IsAggT Tryz.prog 253 := ⟨Tryz.isAgg253⟩
instance : SizeOf Tryz.prog 253 11 := ⟨Tryz.sizeOf253⟩
instance : Und Tryz.prog 253 (Go.TypeDesc.struct #[{ name := "Size_", type := 12, offset := 0, embedded := Bool.false, tag := "", pkgPath := "", byteOffset := 0 }, { name := "PtrBytes", type := 12, offset := 1, embedded := Bool.false, tag := "", pkgPath := "", byteOffset := 8 }, { name := "Hash", type := 165, offset := 2, embedded := Bool.false, tag := "", pkgPath := "", byteOffset := 16 }, { name := "TFlag", type := 247, offset := 3, embedded := Bool.false, tag := "", pkgPath := "", byteOffset := 20 }, { name := "Align_", type := 5, offset := 4, embedded := Bool.false, tag := "", pkgPath := "", byteOffset := 21 }, { name := "FieldAlign_", type := 5, offset := 5, embedded := Bool.false, tag := "", pkgPath := "", byteOffset := 22 }, { name := "Kind_", type := 248, offset := 6, embedded := Bool.false, tag := "", pkgPath := "", byteOffset := 23 }, { name := "Equal", type := 249, offset := 7, embedded := Bool.false, tag := "", pkgPath := "", byteOffset := 24 }, { name := "GCData", type := 250, offset := 8, embedded := Bool.false, tag := "", pkgPath := "", byteOffset := 32 }, { name := "Str", type := 251, offset := 9, embedded := Bool.false, tag := "", pkgPath := "", byteOffset := 40 }, { name := "PtrToThis", type := 252, offset := 10, embedded := Bool.false, tag := "", pkgPath := "", byteOffset := 44 }]) := ⟨Tryz.underlying253⟩
instance : ZeroOf Tryz.prog 253 (Go.Value.agg #[Go.Value.int Go.IntKind.u64 0, Go.Value.int Go.IntKind.u64 0, Go.Value.int Go.IntKind.u32 0, Go.Value.int Go.IntKind.u8 0, Go.Value.int Go.IntKind.u8 0, Go.Value.int Go.IntKind.u8 0, Go.Value.int Go.IntKind.u8 0, Go.Value.nilFunc, Go.Value.pointer Option.none, Go.Value.int Go.IntKind.i32 0, Go.Value.int Go.IntKind.i32 0]) := ⟨Tryz.zeroValue253⟩
instance : IsAggT Tryz.prog 254 := ⟨Tryz.isAgg254⟩
instance : SizeOf Tryz.prog 254 11 := ⟨Tryz.sizeOf254⟩
instance : Und Tryz.prog 254 (Go.TypeDesc.struct #[{ name := "Size_", type := 12, offset := 0, embedded := Bool.false, tag := "", pkgPath := "", byteOffset := 0 }, { name := "PtrBytes", type := 12, offset := 1, embedded := Bool.false, tag := "", pkgPath := "", byteOffset := 8 }, { name := "Hash", type := 165, offset := 2, embedded := Bool.false, tag := "", pkgPath := "", byteOffset := 16 }, { name := "TFlag", type := 247, offset := 3, embedded := Bool.false, tag := "", pkgPath := "", byteOffset := 20 }, { name := "Align_", type := 5, offset := 4, embedded := Bool.false, tag := "", pkgPath := "", byteOffset := 21 }, { name := "FieldAlign_", type := 5, offset := 5, embedded := Bool.false, tag := "", pkgPath := "", byteOffset := 22 }, { name := "Kind_", type := 248, offset := 6, embedded := Bool.false, tag := "", pkgPath := "", byteOffset := 23 }, { name := "Equal", type := 249, offset := 7, embedded := Bool.false, tag := "", pkgPath := "", byteOffset := 24 }, { name := "GCData", type := 250, offset := 8, embedded := Bool.false, tag := "", pkgPath := "", byteOffset := 32 }, { name := "Str", type := 251, offset := 9, embedded := Bool.false, tag := "", pkgPath := "", byteOffset := 40 }, { name := "PtrToThis", type := 252, offset := 10, embedded := Bool.false, tag := "", pkgPath := "", byteOffset := 44 }]) := ⟨Tryz.underlying254⟩
instance : ZeroOf Tryz.prog 254 (Go.Value.agg #[Go.Value.int Go.IntKind.u64 0, Go.Value.int Go.IntKind.u64 0, Go.Value.int Go.IntKind.u32 0, Go.Value.int Go.IntKind.u8 0, Go.Value.int Go.IntKind.u8 0, Go.Value.int Go.IntKind.u8 0, Go.Value.int Go.IntKind.u8 0, Go.Value.nilFunc, Go.Value.pointer Option.none, Go.Value.int Go.IntKind.i32 0, Go.Value.int Go.IntKind.i32 0]) := ⟨Tryz.zeroValue254⟩
instance : IsAggT Tryz.prog 255 := ⟨Tryz.isAgg255⟩
instance : SizeOf Tryz.prog 255 3 := ⟨Tryz.sizeOf255⟩
instance : Und Tryz.prog 255 (Go.TypeDesc.struct #[{ name := "Write", type := 57, offset := 0, embedded := Bool.true, tag := "", pkgPath := "", byteOffset := 0 }]) := ⟨Tryz.underlying255⟩
instance : ZeroOf Tryz.prog 255 (Go.Value.agg #[Go.Value.string { data := #[] }, Go.Value.string { data := #[] }, Go.Value.bool Bool.false]) := ⟨Tryz.zeroValue255⟩
instance : IsAggT Tryz.prog 256 := ⟨Tryz.isAgg256⟩
instance : SizeOf Tryz.prog 256 3 := ⟨Tryz.sizeOf256⟩
instance : Und Tryz.prog 256 (Go.TypeDesc.struct #[{ name := "Write", type := 57, offset := 0, embedded := Bool.true, tag := "", pkgPath := "", byteOffset := 0 }]) := ⟨Tryz.underlying256⟩
instance : ZeroOf Tryz.prog 256 (Go.Value.agg #[Go.Value.string { data := #[] }, Go.Value.string { data := #[] }, Go.Value.bool Bool.false]) := ⟨Tryz.zeroValue256⟩
instance : NonAgg Tryz.prog 257 := ⟨Tryz.isAgg257⟩
instance : SizeOf Tryz.prog 257 1 := ⟨Tryz.sizeOf257⟩
instance : Und Tryz.prog 257 (Go.TypeDesc.func #[53, 9] #[53] Bool.false) := ⟨Tryz.underlying257⟩
instance : ZeroOf Tryz.prog 257 (Go.Value.nilFunc) := ⟨Tryz.zeroValue257⟩
instance : NonAgg Tryz.prog 258 := ⟨Tryz.isAgg258⟩
instance : SizeOf Tryz.prog 258 1 := ⟨Tryz.sizeOf258⟩
instance : Und Tryz.prog 258 (Go.TypeDesc.func #[53, 4] #[53] Bool.false) := ⟨Tryz.underlying258⟩
instance : ZeroOf Tryz.prog 258 (Go.Value.nilFunc) := ⟨Tryz.zeroValue258⟩
instance : NonAgg Tryz.prog 259 := ⟨Tryz.isAgg259⟩
instance : SizeOf Tryz.prog 259 1 := ⟨Tryz.sizeOf259⟩
instance : Und Tryz.prog 259 (Go.TypeDesc.func #[129] #[29] Bool.false) := ⟨Tryz.underlying259⟩
instance : ZeroOf Tryz.prog 259 (Go.Value.nilFunc) := ⟨Tryz.zeroValue259⟩
instance : NonAgg Tryz.prog 260 := ⟨Tryz.isAgg260⟩
instance : SizeOf Tryz.prog 260 1 := ⟨Tryz.sizeOf260⟩
instance : Und Tryz.prog 260 (Go.TypeDesc.func #[38] #[29] Bool.false) := ⟨Tryz.underlying260⟩
instance : ZeroOf Tryz.prog 260 (Go.Value.nilFunc) := ⟨Tryz.zeroValue260⟩
instance : IsAggT Tryz.prog 261 := ⟨Tryz.isAgg261⟩
instance : SizeOf Tryz.prog 261 8 := ⟨Tryz.sizeOf261⟩
instance : Und Tryz.prog 261 (Go.TypeDesc.array 8 2) := ⟨Tryz.underlying261⟩
instance : ZeroOf Tryz.prog 261 (Go.Value.agg #[Go.Value.int Go.IntKind.i64 0, Go.Value.int Go.IntKind.i64 0, Go.Value.int Go.IntKind.i64 0, Go.Value.int Go.IntKind.i64 0, Go.Value.int Go.IntKind.i64 0, Go.Value.int Go.IntKind.i64 0, Go.Value.int Go.IntKind.i64 0, Go.Value.int Go.IntKind.i64 0]) := ⟨Tryz.zeroValue261⟩
instance : NonAgg Tryz.prog 262 := ⟨Tryz.isAgg262⟩
instance : SizeOf Tryz.prog 262 1 := ⟨Tryz.sizeOf262⟩
instance : Und Tryz.prog 262 (Go.TypeDesc.unsafePointer) := ⟨Tryz.underlying262⟩
instance : ZeroOf Tryz.prog 262 (Go.Value.pointer Option.none) := ⟨Tryz.zeroValue262⟩
instance : Fld Tryz.prog 7 0 0 := Fld.of (z := 0) (t := 2) Tryz.underlying7 rfl Tryz.sizeOf2
instance : Fld Tryz.prog 7 1 1 := Fld.of (z := 0) (t := 3) Tryz.underlying7 rfl Tryz.sizeOf3
instance : Fld Tryz.prog 7 2 2 := Fld.of (z := 0) (t := 4) Tryz.underlying7 rfl Tryz.sizeOf4
instance : Fld Tryz.prog 7 3 3 := Fld.of (z := 0) (t := 6) Tryz.underlying7 rfl Tryz.sizeOf6
instance : Places Tryz.prog 7 [(0, 1), (1, 1), (2, 1), (3, 1)] := ⟨_, Tryz.underlying7, fun w => by simp [Tryz.sizeOf2, Tryz.sizeOf3, Tryz.sizeOf4, Tryz.sizeOf6]⟩
instance : Fld Tryz.prog 8 0 0 := Fld.of (z := 0) (t := 2) Tryz.underlying8 rfl Tryz.sizeOf2
instance : Fld Tryz.prog 8 1 1 := Fld.of (z := 0) (t := 3) Tryz.underlying8 rfl Tryz.sizeOf3
instance : Fld Tryz.prog 8 2 2 := Fld.of (z := 0) (t := 4) Tryz.underlying8 rfl Tryz.sizeOf4
instance : Fld Tryz.prog 8 3 3 := Fld.of (z := 0) (t := 6) Tryz.underlying8 rfl Tryz.sizeOf6
instance : Places Tryz.prog 8 [(0, 1), (1, 1), (2, 1), (3, 1)] := ⟨_, Tryz.underlying8, fun w => by simp [Tryz.sizeOf2, Tryz.sizeOf3, Tryz.sizeOf4, Tryz.sizeOf6]⟩
instance : Fld Tryz.prog 13 0 0 := Fld.of (z := 0) (t := 9) Tryz.underlying13 rfl Tryz.sizeOf9
instance : Fld Tryz.prog 13 1 1 := Fld.of (z := 0) (t := 12) Tryz.underlying13 rfl Tryz.sizeOf12
instance : Places Tryz.prog 13 [(0, 1), (1, 1)] := ⟨_, Tryz.underlying13, fun w => by simp [Tryz.sizeOf12, Tryz.sizeOf9]⟩
instance : Fld Tryz.prog 14 0 0 := Fld.of (z := 0) (t := 9) Tryz.underlying14 rfl Tryz.sizeOf9
instance : Fld Tryz.prog 14 1 1 := Fld.of (z := 0) (t := 12) Tryz.underlying14 rfl Tryz.sizeOf12
instance : Places Tryz.prog 14 [(0, 1), (1, 1)] := ⟨_, Tryz.underlying14, fun w => by simp [Tryz.sizeOf12, Tryz.sizeOf9]⟩
instance : Fld Tryz.prog 18 0 0 := Fld.of (z := 0) (t := 17) Tryz.underlying18 rfl Tryz.sizeOf17
instance : Places Tryz.prog 18 [(0, 1)] := ⟨_, Tryz.underlying18, fun w => by simp [Tryz.sizeOf17]⟩
instance : Fld Tryz.prog 19 0 0 := Fld.of (z := 0) (t := 17) Tryz.underlying19 rfl Tryz.sizeOf17
instance : Places Tryz.prog 19 [(0, 1)] := ⟨_, Tryz.underlying19, fun w => by simp [Tryz.sizeOf17]⟩
instance : Fld Tryz.prog 22 0 0 := Fld.of (z := 0) (t := 3) Tryz.underlying22 rfl Tryz.sizeOf3
instance : Fld Tryz.prog 22 1 1 := Fld.of (z := 0) (t := 3) Tryz.underlying22 rfl Tryz.sizeOf3
instance : Places Tryz.prog 22 [(0, 1), (1, 1)] := ⟨_, Tryz.underlying22, fun w => by simp [Tryz.sizeOf3]⟩
instance : Fld Tryz.prog 23 0 0 := Fld.of (z := 0) (t := 3) Tryz.underlying23 rfl Tryz.sizeOf3
instance : Fld Tryz.prog 23 1 1 := Fld.of (z := 0) (t := 3) Tryz.underlying23 rfl Tryz.sizeOf3
instance : Places Tryz.prog 23 [(0, 1), (1, 1)] := ⟨_, Tryz.underlying23, fun w => by simp [Tryz.sizeOf3]⟩
instance : Fld Tryz.prog 25 0 0 := Fld.of (z := 0) (t := 3) Tryz.underlying25 rfl Tryz.sizeOf3
instance : Fld Tryz.prog 25 1 1 := Fld.of (z := 0) (t := 3) Tryz.underlying25 rfl Tryz.sizeOf3
instance : Fld Tryz.prog 25 2 2 := Fld.of (z := 0) (t := 3) Tryz.underlying25 rfl Tryz.sizeOf3
instance : Fld Tryz.prog 25 3 3 := Fld.of (z := 3) (t := 24) Tryz.underlying25 rfl Tryz.sizeOf24
instance : Places Tryz.prog 25 [(0, 1), (1, 1), (2, 1), (3, 4)] := ⟨_, Tryz.underlying25, fun w => by simp [Tryz.sizeOf24, Tryz.sizeOf3]⟩
instance : Fld Tryz.prog 26 0 0 := Fld.of (z := 0) (t := 3) Tryz.underlying26 rfl Tryz.sizeOf3
instance : Fld Tryz.prog 26 1 1 := Fld.of (z := 0) (t := 3) Tryz.underlying26 rfl Tryz.sizeOf3
instance : Fld Tryz.prog 26 2 2 := Fld.of (z := 0) (t := 3) Tryz.underlying26 rfl Tryz.sizeOf3
instance : Fld Tryz.prog 26 3 3 := Fld.of (z := 3) (t := 24) Tryz.underlying26 rfl Tryz.sizeOf24
instance : Places Tryz.prog 26 [(0, 1), (1, 1), (2, 1), (3, 4)] := ⟨_, Tryz.underlying26, fun w => by simp [Tryz.sizeOf24, Tryz.sizeOf3]⟩
instance : Fld Tryz.prog 27 0 0 := Fld.of (z := 0) (t := 3) Tryz.underlying27 rfl Tryz.sizeOf3
instance : Fld Tryz.prog 27 1 1 := Fld.of (z := 6) (t := 26) Tryz.underlying27 rfl Tryz.sizeOf26
instance : Places Tryz.prog 27 [(0, 1), (1, 7)] := ⟨_, Tryz.underlying27, fun w => by simp [Tryz.sizeOf26, Tryz.sizeOf3]⟩
instance : Fld Tryz.prog 28 0 0 := Fld.of (z := 0) (t := 3) Tryz.underlying28 rfl Tryz.sizeOf3
instance : Fld Tryz.prog 28 1 1 := Fld.of (z := 6) (t := 26) Tryz.underlying28 rfl Tryz.sizeOf26
instance : Places Tryz.prog 28 [(0, 1), (1, 7)] := ⟨_, Tryz.underlying28, fun w => by simp [Tryz.sizeOf26, Tryz.sizeOf3]⟩
instance : Fld Tryz.prog 35 0 0 := Fld.of (z := 0) (t := 2) Tryz.underlying35 rfl Tryz.sizeOf2
instance : Fld Tryz.prog 35 1 1 := Fld.of (z := 0) (t := 3) Tryz.underlying35 rfl Tryz.sizeOf3
instance : Fld Tryz.prog 35 2 2 := Fld.of (z := 0) (t := 2) Tryz.underlying35 rfl Tryz.sizeOf2
instance : Fld Tryz.prog 35 3 3 := Fld.of (z := 0) (t := 2) Tryz.underlying35 rfl Tryz.sizeOf2
instance : Places Tryz.prog 35 [(0, 1), (1, 1), (2, 1), (3, 1)] := ⟨_, Tryz.underlying35, fun w => by simp [Tryz.sizeOf2, Tryz.sizeOf3]⟩
instance : Fld Tryz.prog 36 0 0 := Fld.of (z := 0) (t := 2) Tryz.underlying36 rfl Tryz.sizeOf2
instance : Fld Tryz.prog 36 1 1 := Fld.of (z := 0) (t := 3) Tryz.underlying36 rfl Tryz.sizeOf3
instance : Fld Tryz.prog 36 2 2 := Fld.of (z := 0) (t := 2) Tryz.underlying36 rfl Tryz.sizeOf2
instance : Fld Tryz.prog 36 3 3 := Fld.of (z := 0) (t := 2) Tryz.underlying36 rfl Tryz.sizeOf2
instance : Places Tryz.prog 36 [(0, 1), (1, 1), (2, 1), (3, 1)] := ⟨_, Tryz.underlying36, fun w => by simp [Tryz.sizeOf2, Tryz.sizeOf3]⟩
instance : Fld Tryz.prog 37 0 0 := Fld.of (z := 0) (t := 2) Tryz.underlying37 rfl Tryz.sizeOf2
instance : Fld Tryz.prog 37 1 1 := Fld.of (z := 0) (t := 3) Tryz.underlying37 rfl Tryz.sizeOf3
instance : Fld Tryz.prog 37 2 2 := Fld.of (z := 0) (t := 3) Tryz.underlying37 rfl Tryz.sizeOf3
instance : Fld Tryz.prog 37 3 3 := Fld.of (z := 0) (t := 2) Tryz.underlying37 rfl Tryz.sizeOf2
instance : Fld Tryz.prog 37 4 4 := Fld.of (z := 3) (t := 36) Tryz.underlying37 rfl Tryz.sizeOf36
instance : Places Tryz.prog 37 [(0, 1), (1, 1), (2, 1), (3, 1), (4, 4)] := ⟨_, Tryz.underlying37, fun w => by simp [Tryz.sizeOf2, Tryz.sizeOf3, Tryz.sizeOf36]⟩
instance : Fld Tryz.prog 38 0 0 := Fld.of (z := 0) (t := 2) Tryz.underlying38 rfl Tryz.sizeOf2
instance : Fld Tryz.prog 38 1 1 := Fld.of (z := 0) (t := 3) Tryz.underlying38 rfl Tryz.sizeOf3
instance : Fld Tryz.prog 38 2 2 := Fld.of (z := 0) (t := 3) Tryz.underlying38 rfl Tryz.sizeOf3
instance : Fld Tryz.prog 38 3 3 := Fld.of (z := 0) (t := 2) Tryz.underlying38 rfl Tryz.sizeOf2
instance : Fld Tryz.prog 38 4 4 := Fld.of (z := 3) (t := 36) Tryz.underlying38 rfl Tryz.sizeOf36
instance : Places Tryz.prog 38 [(0, 1), (1, 1), (2, 1), (3, 1), (4, 4)] := ⟨_, Tryz.underlying38, fun w => by simp [Tryz.sizeOf2, Tryz.sizeOf3, Tryz.sizeOf36]⟩
instance : Fld Tryz.prog 40 0 0 := Fld.of (z := 7) (t := 38) Tryz.underlying40 rfl Tryz.sizeOf38
instance : Fld Tryz.prog 40 1 8 := Fld.of (z := 0) (t := 39) Tryz.underlying40 rfl Tryz.sizeOf39
instance : Fld Tryz.prog 40 2 9 := Fld.of (z := 0) (t := 2) Tryz.underlying40 rfl Tryz.sizeOf2
instance : Fld Tryz.prog 40 3 10 := Fld.of (z := 0) (t := 3) Tryz.underlying40 rfl Tryz.sizeOf3
instance : Places Tryz.prog 40 [(0, 8), (8, 1), (9, 1), (10, 1)] := ⟨_, Tryz.underlying40, fun w => by simp [Tryz.sizeOf2, Tryz.sizeOf3, Tryz.sizeOf38, Tryz.sizeOf39]⟩
instance : Fld Tryz.prog 41 0 0 := Fld.of (z := 7) (t := 38) Tryz.underlying41 rfl Tryz.sizeOf38
instance : Fld Tryz.prog 41 1 8 := Fld.of (z := 0) (t := 39) Tryz.underlying41 rfl Tryz.sizeOf39
instance : Fld Tryz.prog 41 2 9 := Fld.of (z := 0) (t := 2) Tryz.underlying41 rfl Tryz.sizeOf2
instance : Fld Tryz.prog 41 3 10 := Fld.of (z := 0) (t := 3) Tryz.underlying41 rfl Tryz.sizeOf3
instance : Places Tryz.prog 41 [(0, 8), (8, 1), (9, 1), (10, 1)] := ⟨_, Tryz.underlying41, fun w => by simp [Tryz.sizeOf2, Tryz.sizeOf3, Tryz.sizeOf38, Tryz.sizeOf39]⟩
instance : Fld Tryz.prog 56 0 0 := Fld.of (z := 0) (t := 9) Tryz.underlying56 rfl Tryz.sizeOf9
instance : Fld Tryz.prog 56 1 1 := Fld.of (z := 0) (t := 9) Tryz.underlying56 rfl Tryz.sizeOf9
instance : Fld Tryz.prog 56 2 2 := Fld.of (z := 0) (t := 4) Tryz.underlying56 rfl Tryz.sizeOf4
instance : Places Tryz.prog 56 [(0, 1), (1, 1), (2, 1)] := ⟨_, Tryz.underlying56, fun w => by simp [Tryz.sizeOf4, Tryz.sizeOf9]⟩
instance : Fld Tryz.prog 57 0 0 := Fld.of (z := 0) (t := 9) Tryz.underlying57 rfl Tryz.sizeOf9
instance : Fld Tryz.prog 57 1 1 := Fld.of (z := 0) (t := 9) Tryz.underlying57 rfl Tryz.sizeOf9
instance : Fld Tryz.prog 57 2 2 := Fld.of (z := 0) (t := 4) Tryz.underlying57 rfl Tryz.sizeOf4
instance : Places Tryz.prog 57 [(0, 1), (1, 1), (2, 1)] := ⟨_, Tryz.underlying57, fun w => by simp [Tryz.sizeOf4, Tryz.sizeOf9]⟩
instance : Fld Tryz.prog 59 0 0 := Fld.of (z := 0) (t := 2) Tryz.underlying59 rfl Tryz.sizeOf2
instance : Fld Tryz.prog 59 1 1 := Fld.of (z := 0) (t := 58) Tryz.underlying59 rfl Tryz.sizeOf58
instance : Places Tryz.prog 59 [(0, 1), (1, 1)] := ⟨_, Tryz.underlying59, fun w => by simp [Tryz.sizeOf2, Tryz.sizeOf58]⟩
instance : Fld Tryz.prog 60 0 0 := Fld.of (z := 0) (t := 2) Tryz.underlying60 rfl Tryz.sizeOf2
instance : Fld Tryz.prog 60 1 1 := Fld.of (z := 0) (t := 58) Tryz.underlying60 rfl Tryz.sizeOf58
instance : Places Tryz.prog 60 [(0, 1), (1, 1)] := ⟨_, Tryz.underlying60, fun w => by simp [Tryz.sizeOf2, Tryz.sizeOf58]⟩
instance : Fld Tryz.prog 65 0 0 := Fld.of (z := 0) (t := 3) Tryz.underlying65 rfl Tryz.sizeOf3
instance : Fld Tryz.prog 65 1 1 := Fld.of (z := 0) (t := 3) Tryz.underlying65 rfl Tryz.sizeOf3
instance : Places Tryz.prog 65 [(0, 1), (1, 1)] := ⟨_, Tryz.underlying65, fun w => by simp [Tryz.sizeOf3]⟩
instance : Fld Tryz.prog 66 0 0 := Fld.of (z := 0) (t := 3) Tryz.underlying66 rfl Tryz.sizeOf3
instance : Fld Tryz.prog 66 1 1 := Fld.of (z := 0) (t := 3) Tryz.underlying66 rfl Tryz.sizeOf3
instance : Places Tryz.prog 66 [(0, 1), (1, 1)] := ⟨_, Tryz.underlying66, fun w => by simp [Tryz.sizeOf3]⟩
instance : Fld Tryz.prog 68 0 0 := Fld.of (z := 0) (t := 3) Tryz.underlying68 rfl Tryz.sizeOf3
instance : Fld Tryz.prog 68 1 1 := Fld.of (z := 0) (t := 3) Tryz.underlying68 rfl Tryz.sizeOf3
instance : Places Tryz.prog 68 [(0, 1), (1, 1)] := ⟨_, Tryz.underlying68, fun w => by simp [Tryz.sizeOf3]⟩
instance : Fld Tryz.prog 69 0 0 := Fld.of (z := 0) (t := 3) Tryz.underlying69 rfl Tryz.sizeOf3
instance : Fld Tryz.prog 69 1 1 := Fld.of (z := 0) (t := 3) Tryz.underlying69 rfl Tryz.sizeOf3
instance : Places Tryz.prog 69 [(0, 1), (1, 1)] := ⟨_, Tryz.underlying69, fun w => by simp [Tryz.sizeOf3]⟩
instance : Fld Tryz.prog 101 0 0 := Fld.of (z := 0) (t := 98) Tryz.underlying101 rfl Tryz.sizeOf98
instance : Fld Tryz.prog 101 1 1 := Fld.of (z := 0) (t := 99) Tryz.underlying101 rfl Tryz.sizeOf99
instance : Fld Tryz.prog 101 2 2 := Fld.of (z := 0) (t := 4) Tryz.underlying101 rfl Tryz.sizeOf4
instance : Fld Tryz.prog 101 3 3 := Fld.of (z := 0) (t := 2) Tryz.underlying101 rfl Tryz.sizeOf2
instance : Fld Tryz.prog 101 4 4 := Fld.of (z := 0) (t := 3) Tryz.underlying101 rfl Tryz.sizeOf3
instance : Fld Tryz.prog 101 5 5 := Fld.of (z := 0) (t := 100) Tryz.underlying101 rfl Tryz.sizeOf100
instance : Places Tryz.prog 101 [(0, 1), (1, 1), (2, 1), (3, 1), (4, 1), (5, 1)] := ⟨_, Tryz.underlying101, fun w => by simp [Tryz.sizeOf100, Tryz.sizeOf2, Tryz.sizeOf3, Tryz.sizeOf4, Tryz.sizeOf98, Tryz.sizeOf99]⟩
instance : Fld Tryz.prog 102 0 0 := Fld.of (z := 0) (t := 98) Tryz.underlying102 rfl Tryz.sizeOf98
instance : Fld Tryz.prog 102 1 1 := Fld.of (z := 0) (t := 99) Tryz.underlying102 rfl Tryz.sizeOf99
instance : Fld Tryz.prog 102 2 2 := Fld.of (z := 0) (t := 4) Tryz.underlying102 rfl Tryz.sizeOf4
instance : Fld Tryz.prog 102 3 3 := Fld.of (z := 0) (t := 2) Tryz.underlying102 rfl Tryz.sizeOf2
instance : Fld Tryz.prog 102 4 4 := Fld.of (z := 0) (t := 3) Tryz.underlying102 rfl Tryz.sizeOf3
instance : Fld Tryz.prog 102 5 5 := Fld.of (z := 0) (t := 100) Tryz.underlying102 rfl Tryz.sizeOf100
instance : Places Tryz.prog 102 [(0, 1), (1, 1), (2, 1), (3, 1), (4, 1), (5, 1)] := ⟨_, Tryz.underlying102, fun w => by simp [Tryz.sizeOf100, Tryz.sizeOf2, Tryz.sizeOf3, Tryz.sizeOf4, Tryz.sizeOf98, Tryz.sizeOf99]⟩
instance : Fld Tryz.prog 104 0 0 := Fld.of (z := 1) (t := 60) Tryz.underlying104 rfl Tryz.sizeOf60
instance : Places Tryz.prog 104 [(0, 2)] := ⟨_, Tryz.underlying104, fun w => by simp [Tryz.sizeOf60]⟩
instance : Fld Tryz.prog 105 0 0 := Fld.of (z := 1) (t := 60) Tryz.underlying105 rfl Tryz.sizeOf60
instance : Places Tryz.prog 105 [(0, 2)] := ⟨_, Tryz.underlying105, fun w => by simp [Tryz.sizeOf60]⟩
instance : Fld Tryz.prog 110 0 0 := Fld.of (z := 0) (t := 49) Tryz.underlying110 rfl Tryz.sizeOf49
instance : Fld Tryz.prog 110 1 1 := Fld.of (z := 0) (t := 3) Tryz.underlying110 rfl Tryz.sizeOf3
instance : Fld Tryz.prog 110 2 2 := Fld.of (z := 0) (t := 3) Tryz.underlying110 rfl Tryz.sizeOf3
instance : Fld Tryz.prog 110 3 3 := Fld.of (z := 0) (t := 2) Tryz.underlying110 rfl Tryz.sizeOf2
instance : Fld Tryz.prog 110 4 4 := Fld.of (z := 0) (t := 2) Tryz.underlying110 rfl Tryz.sizeOf2
instance : Fld Tryz.prog 110 5 5 := Fld.of (z := 0) (t := 2) Tryz.underlying110 rfl Tryz.sizeOf2
instance : Fld Tryz.prog 110 6 6 := Fld.of (z := 0) (t := 53) Tryz.underlying110 rfl Tryz.sizeOf53
instance : Fld Tryz.prog 110 7 7 := Fld.of (z := 0) (t := 109) Tryz.underlying110 rfl Tryz.sizeOf109
instance : Fld Tryz.prog 110 8 8 := Fld.of (z := 3) (t := 36) Tryz.underlying110 rfl Tryz.sizeOf36
instance : Fld Tryz.prog 110 9 12 := Fld.of (z := 0) (t := 108) Tryz.underlying110 rfl Tryz.sizeOf108
instance : Fld Tryz.prog 110 10 13 := Fld.of (z := 0) (t := 2) Tryz.underlying110 rfl Tryz.sizeOf2
instance : Fld Tryz.prog 110 11 14 := Fld.of (z := 0) (t := 2) Tryz.underlying110 rfl Tryz.sizeOf2
instance : Fld Tryz.prog 110 12 15 := Fld.of (z := 0) (t := 4) Tryz.underlying110 rfl Tryz.sizeOf4
instance : Places Tryz.prog 110 [(0, 1), (1, 1), (2, 1), (3, 1), (4, 1), (5, 1), (6, 1), (7, 1), (8, 4), (12, 1), (13, 1), (14, 1), (15, 1)] := ⟨_, Tryz.underlying110, fun w => by simp [Tryz.sizeOf108, Tryz.sizeOf109, Tryz.sizeOf2, Tryz.sizeOf3, Tryz.sizeOf36, Tryz.sizeOf4, Tryz.sizeOf49, Tryz.sizeOf53]⟩
instance : Fld Tryz.prog 111 0 0 := Fld.of (z := 0) (t := 49) Tryz.underlying111 rfl Tryz.sizeOf49
instance : Fld Tryz.prog 111 1 1 := Fld.of (z := 0) (t := 3) Tryz.underlying111 rfl Tryz.sizeOf3
instance : Fld Tryz.prog 111 2 2 := Fld.of (z := 0) (t := 3) Tryz.underlying111 rfl Tryz.sizeOf3
instance : Fld Tryz.prog 111 3 3 := Fld.of (z := 0) (t := 2) Tryz.underlying111 rfl Tryz.sizeOf2
instance : Fld Tryz.prog 111 4 4 := Fld.of (z := 0) (t := 2) Tryz.underlying111 rfl Tryz.sizeOf2
instance : Fld Tryz.prog 111 5 5 := Fld.of (z := 0) (t := 2) Tryz.underlying111 rfl Tryz.sizeOf2
instance : Fld Tryz.prog 111 6 6 := Fld.of (z := 0) (t := 53) Tryz.underlying111 rfl Tryz.sizeOf53
instance : Fld Tryz.prog 111 7 7 := Fld.of (z := 0) (t := 109) Tryz.underlying111 rfl Tryz.sizeOf109
instance : Fld Tryz.prog 111 8 8 := Fld.of (z := 3) (t := 36) Tryz.underlying111 rfl Tryz.sizeOf36
instance : Fld Tryz.prog 111 9 12 := Fld.of (z := 0) (t := 108) Tryz.underlying111 rfl Tryz.sizeOf108
instance : Fld Tryz.prog 111 10 13 := Fld.of (z := 0) (t := 2) Tryz.underlying111 rfl Tryz.sizeOf2
instance : Fld Tryz.prog 111 11 14 := Fld.of (z := 0) (t := 2) Tryz.underlying111 rfl Tryz.sizeOf2
instance : Fld Tryz.prog 111 12 15 := Fld.of (z := 0) (t := 4) Tryz.underlying111 rfl Tryz.sizeOf4
instance : Places Tryz.prog 111 [(0, 1), (1, 1), (2, 1), (3, 1), (4, 1), (5, 1), (6, 1), (7, 1), (8, 4), (12, 1), (13, 1), (14, 1), (15, 1)] := ⟨_, Tryz.underlying111, fun w => by simp [Tryz.sizeOf108, Tryz.sizeOf109, Tryz.sizeOf2, Tryz.sizeOf3, Tryz.sizeOf36, Tryz.sizeOf4, Tryz.sizeOf49, Tryz.sizeOf53]⟩
instance : Fld Tryz.prog 113 0 0 := Fld.of (z := 0) (t := 2) Tryz.underlying113 rfl Tryz.sizeOf2
instance : Fld Tryz.prog 113 1 1 := Fld.of (z := 0) (t := 53) Tryz.underlying113 rfl Tryz.sizeOf53
instance : Places Tryz.prog 113 [(0, 1), (1, 1)] := ⟨_, Tryz.underlying113, fun w => by simp [Tryz.sizeOf2, Tryz.sizeOf53]⟩
instance : Fld Tryz.prog 114 0 0 := Fld.of (z := 0) (t := 2) Tryz.underlying114 rfl Tryz.sizeOf2
instance : Fld Tryz.prog 114 1 1 := Fld.of (z := 0) (t := 53) Tryz.underlying114 rfl Tryz.sizeOf53
instance : Places Tryz.prog 114 [(0, 1), (1, 1)] := ⟨_, Tryz.underlying114, fun w => by simp [Tryz.sizeOf2, Tryz.sizeOf53]⟩
instance : Fld Tryz.prog 117 0 0 := Fld.of (z := 0) (t := 9) Tryz.underlying117 rfl Tryz.sizeOf9
instance : Fld Tryz.prog 117 1 1 := Fld.of (z := 0) (t := 9) Tryz.underlying117 rfl Tryz.sizeOf9
instance : Fld Tryz.prog 117 2 2 := Fld.of (z := 0) (t := 2) Tryz.underlying117 rfl Tryz.sizeOf2
instance : Places Tryz.prog 117 [(0, 1), (1, 1), (2, 1)] := ⟨_, Tryz.underlying117, fun w => by simp [Tryz.sizeOf2, Tryz.sizeOf9]⟩
instance : Fld Tryz.prog 118 0 0 := Fld.of (z := 0) (t := 9) Tryz.underlying118 rfl Tryz.sizeOf9
instance : Fld Tryz.prog 118 1 1 := Fld.of (z := 0) (t := 9) Tryz.underlying118 rfl Tryz.sizeOf9
instance : Fld Tryz.prog 118 2 2 := Fld.of (z := 0) (t := 2) Tryz.underlying118 rfl Tryz.sizeOf2
instance : Places Tryz.prog 118 [(0, 1), (1, 1), (2, 1)] := ⟨_, Tryz.underlying118, fun w => by simp [Tryz.sizeOf2, Tryz.sizeOf9]⟩
instance : Fld Tryz.prog 119 0 0 := Fld.of (z := 0) (t := 29) Tryz.underlying119 rfl Tryz.sizeOf29
instance : Places Tryz.prog 119 [(0, 1)] := ⟨_, Tryz.underlying119, fun w => by simp [Tryz.sizeOf29]⟩
instance : Fld Tryz.prog 120 0 0 := Fld.of (z := 0) (t := 29) Tryz.underlying120 rfl Tryz.sizeOf29
instance : Places Tryz.prog 120 [(0, 1)] := ⟨_, Tryz.underlying120, fun w => by simp [Tryz.sizeOf29]⟩
instance : Fld Tryz.prog 128 0 0 := Fld.of (z := 0) (t := 3) Tryz.underlying128 rfl Tryz.sizeOf3
instance : Fld Tryz.prog 128 1 1 := Fld.of (z := 0) (t := 39) Tryz.underlying128 rfl Tryz.sizeOf39
instance : Fld Tryz.prog 128 2 2 := Fld.of (z := 0) (t := 4) Tryz.underlying128 rfl Tryz.sizeOf4
instance : Places Tryz.prog 128 [(0, 1), (1, 1), (2, 1)] := ⟨_, Tryz.underlying128, fun w => by simp [Tryz.sizeOf3, Tryz.sizeOf39, Tryz.sizeOf4]⟩
instance : Fld Tryz.prog 129 0 0 := Fld.of (z := 0) (t := 3) Tryz.underlying129 rfl Tryz.sizeOf3
instance : Fld Tryz.prog 129 1 1 := Fld.of (z := 0) (t := 39) Tryz.underlying129 rfl Tryz.sizeOf39
instance : Fld Tryz.prog 129 2 2 := Fld.of (z := 0) (t := 4) Tryz.underlying129 rfl Tryz.sizeOf4
instance : Places Tryz.prog 129 [(0, 1), (1, 1), (2, 1)] := ⟨_, Tryz.underlying129, fun w => by simp [Tryz.sizeOf3, Tryz.sizeOf39, Tryz.sizeOf4]⟩
instance : Fld Tryz.prog 136 0 0 := Fld.of (z := 0) (t := 4) Tryz.underlying136 rfl Tryz.sizeOf4
instance : Fld Tryz.prog 136 1 1 := Fld.of (z := 0) (t := 2) Tryz.underlying136 rfl Tryz.sizeOf2
instance : Fld Tryz.prog 136 2 2 := Fld.of (z := 0) (t := 2) Tryz.underlying136 rfl Tryz.sizeOf2
instance : Fld Tryz.prog 136 3 3 := Fld.of (z := 0) (t := 2) Tryz.underlying136 rfl Tryz.sizeOf2
instance : Fld Tryz.prog 136 4 4 := Fld.of (z := 0) (t := 53) Tryz.underlying136 rfl Tryz.sizeOf53
instance : Places Tryz.prog 136 [(0, 1), (1, 1), (2, 1), (3, 1), (4, 1)] := ⟨_, Tryz.underlying136, fun w => by simp [Tryz.sizeOf2, Tryz.sizeOf4, Tryz.sizeOf53]⟩
instance : Fld Tryz.prog 137 0 0 := Fld.of (z := 0) (t := 4) Tryz.underlying137 rfl Tryz.sizeOf4
instance : Fld Tryz.prog 137 1 1 := Fld.of (z := 0) (t := 2) Tryz.underlying137 rfl Tryz.sizeOf2
instance : Fld Tryz.prog 137 2 2 := Fld.of (z := 0) (t := 2) Tryz.underlying137 rfl Tryz.sizeOf2
instance : Fld Tryz.prog 137 3 3 := Fld.of (z := 0) (t := 2) Tryz.underlying137 rfl Tryz.sizeOf2
instance : Fld Tryz.prog 137 4 4 := Fld.of (z := 0) (t := 53) Tryz.underlying137 rfl Tryz.sizeOf53
instance : Places Tryz.prog 137 [(0, 1), (1, 1), (2, 1), (3, 1), (4, 1)] := ⟨_, Tryz.underlying137, fun w => by simp [Tryz.sizeOf2, Tryz.sizeOf4, Tryz.sizeOf53]⟩
instance : Fld Tryz.prog 146 0 0 := Fld.of (z := 0) (t := 53) Tryz.underlying146 rfl Tryz.sizeOf53
instance : Fld Tryz.prog 146 1 1 := Fld.of (z := 0) (t := 3) Tryz.underlying146 rfl Tryz.sizeOf3
instance : Fld Tryz.prog 146 2 2 := Fld.of (z := 0) (t := 29) Tryz.underlying146 rfl Tryz.sizeOf29
instance : Places Tryz.prog 146 [(0, 1), (1, 1), (2, 1)] := ⟨_, Tryz.underlying146, fun w => by simp [Tryz.sizeOf29, Tryz.sizeOf3, Tryz.sizeOf53]⟩
instance : Fld Tryz.prog 147 0 0 := Fld.of (z := 0) (t := 53) Tryz.underlying147 rfl Tryz.sizeOf53
instance : Fld Tryz.prog 147 1 1 := Fld.of (z := 0) (t := 3) Tryz.underlying147 rfl Tryz.sizeOf3
instance : Fld Tryz.prog 147 2 2 := Fld.of (z := 0) (t := 29) Tryz.underlying147 rfl Tryz.sizeOf29
instance : Places Tryz.prog 147 [(0, 1), (1, 1), (2, 1)] := ⟨_, Tryz.underlying147, fun w => by simp [Tryz.sizeOf29, Tryz.sizeOf3, Tryz.sizeOf53]⟩
instance : Fld Tryz.prog 158 0 0 := Fld.of (z := 0) (t := 49) Tryz.underlying158 rfl Tryz.sizeOf49
instance : Fld Tryz.prog 158 1 1 := Fld.of (z := 1) (t := 23) Tryz.underlying158 rfl Tryz.sizeOf23
instance : Fld Tryz.prog 158 2 3 := Fld.of (z := 0) (t := 39) Tryz.underlying158 rfl Tryz.sizeOf39
instance : Fld Tryz.prog 158 3 4 := Fld.of (z := 0) (t := 3) Tryz.underlying158 rfl Tryz.sizeOf3
instance : Fld Tryz.prog 158 4 5 := Fld.of (z := 0) (t := 4) Tryz.underlying158 rfl Tryz.sizeOf4
instance : Places Tryz.prog 158 [(0, 1), (1, 2), (3, 1), (4, 1), (5, 1)] := ⟨_, Tryz.underlying158, fun w => by simp [Tryz.sizeOf23, Tryz.sizeOf3, Tryz.sizeOf39, Tryz.sizeOf4, Tryz.sizeOf49]⟩
instance : Fld Tryz.prog 159 0 0 := Fld.of (z := 0) (t := 49) Tryz.underlying159 rfl Tryz.sizeOf49
instance : Fld Tryz.prog 159 1 1 := Fld.of (z := 1) (t := 23) Tryz.underlying159 rfl Tryz.sizeOf23
instance : Fld Tryz.prog 159 2 3 := Fld.of (z := 0) (t := 39) Tryz.underlying159 rfl Tryz.sizeOf39
instance : Fld Tryz.prog 159 3 4 := Fld.of (z := 0) (t := 3) Tryz.underlying159 rfl Tryz.sizeOf3
instance : Fld Tryz.prog 159 4 5 := Fld.of (z := 0) (t := 4) Tryz.underlying159 rfl Tryz.sizeOf4
instance : Places Tryz.prog 159 [(0, 1), (1, 2), (3, 1), (4, 1), (5, 1)] := ⟨_, Tryz.underlying159, fun w => by simp [Tryz.sizeOf23, Tryz.sizeOf3, Tryz.sizeOf39, Tryz.sizeOf4, Tryz.sizeOf49]⟩
instance : Fld Tryz.prog 198 0 0 := Fld.of (z := 2) (t := 129) Tryz.underlying198 rfl Tryz.sizeOf129
instance : Places Tryz.prog 198 [(0, 3)] := ⟨_, Tryz.underlying198, fun w => by simp [Tryz.sizeOf129]⟩
instance : Fld Tryz.prog 199 0 0 := Fld.of (z := 2) (t := 129) Tryz.underlying199 rfl Tryz.sizeOf129
instance : Places Tryz.prog 199 [(0, 3)] := ⟨_, Tryz.underlying199, fun w => by simp [Tryz.sizeOf129]⟩
instance : Fld Tryz.prog 209 0 0 := Fld.of (z := 7) (t := 38) Tryz.underlying209 rfl Tryz.sizeOf38
instance : Places Tryz.prog 209 [(0, 8)] := ⟨_, Tryz.underlying209, fun w => by simp [Tryz.sizeOf38]⟩
instance : Fld Tryz.prog 210 0 0 := Fld.of (z := 7) (t := 38) Tryz.underlying210 rfl Tryz.sizeOf38
instance : Places Tryz.prog 210 [(0, 8)] := ⟨_, Tryz.underlying210, fun w => by simp [Tryz.sizeOf38]⟩
instance : Fld Tryz.prog 242 0 0 := Fld.of (z := 0) (t := 17) Tryz.underlying242 rfl Tryz.sizeOf17
instance : Fld Tryz.prog 242 1 1 := Fld.of (z := 0) (t := 17) Tryz.underlying242 rfl Tryz.sizeOf17
instance : Fld Tryz.prog 242 2 2 := Fld.of (z := 0) (t := 17) Tryz.underlying242 rfl Tryz.sizeOf17
instance : Fld Tryz.prog 242 3 3 := Fld.of (z := 0) (t := 9) Tryz.underlying242 rfl Tryz.sizeOf9
instance : Places Tryz.prog 242 [(0, 1), (1, 1), (2, 1), (3, 1)] := ⟨_, Tryz.underlying242, fun w => by simp [Tryz.sizeOf17, Tryz.sizeOf9]⟩
instance : Fld Tryz.prog 243 0 0 := Fld.of (z := 0) (t := 17) Tryz.underlying243 rfl Tryz.sizeOf17
instance : Fld Tryz.prog 243 1 1 := Fld.of (z := 0) (t := 17) Tryz.underlying243 rfl Tryz.sizeOf17
instance : Fld Tryz.prog 243 2 2 := Fld.of (z := 0) (t := 17) Tryz.underlying243 rfl Tryz.sizeOf17
instance : Fld Tryz.prog 243 3 3 := Fld.of (z := 0) (t := 9) Tryz.underlying243 rfl Tryz.sizeOf9
instance : Places Tryz.prog 243 [(0, 1), (1, 1), (2, 1), (3, 1)] := ⟨_, Tryz.underlying243, fun w => by simp [Tryz.sizeOf17, Tryz.sizeOf9]⟩
instance : Places Tryz.prog 245 [(0, 0)] := ⟨_, Tryz.underlying245, fun w => by simp [Tryz.sizeOf244]⟩
instance : Places Tryz.prog 246 [(0, 0)] := ⟨_, Tryz.underlying246, fun w => by simp [Tryz.sizeOf244]⟩
instance : Fld Tryz.prog 253 0 0 := Fld.of (z := 0) (t := 12) Tryz.underlying253 rfl Tryz.sizeOf12
instance : Fld Tryz.prog 253 1 1 := Fld.of (z := 0) (t := 12) Tryz.underlying253 rfl Tryz.sizeOf12
instance : Fld Tryz.prog 253 2 2 := Fld.of (z := 0) (t := 165) Tryz.underlying253 rfl Tryz.sizeOf165
instance : Fld Tryz.prog 253 3 3 := Fld.of (z := 0) (t := 247) Tryz.underlying253 rfl Tryz.sizeOf247
instance : Fld Tryz.prog 253 4 4 := Fld.of (z := 0) (t := 5) Tryz.underlying253 rfl Tryz.sizeOf5
instance : Fld Tryz.prog 253 5 5 := Fld.of (z := 0) (t := 5) Tryz.underlying253 rfl Tryz.sizeOf5
instance : Fld Tryz.prog 253 6 6 := Fld.of (z := 0) (t := 248) Tryz.underlying253 rfl Tryz.sizeOf248
instance : Fld Tryz.prog 253 7 7 := Fld.of (z := 0) (t := 249) Tryz.underlying253 rfl Tryz.sizeOf249
instance : Fld Tryz.prog 253 8 8 := Fld.of (z := 0) (t := 250) Tryz.underlying253 rfl Tryz.sizeOf250
instance : Fld Tryz.prog 253 9 9 := Fld.of (z := 0) (t := 251) Tryz.underlying253 rfl Tryz.sizeOf251
instance : Fld Tryz.prog 253 10 10 := Fld.of (z := 0) (t := 252) Tryz.underlying253 rfl Tryz.sizeOf252
instance : Places Tryz.prog 253 [(0, 1), (1, 1), (2, 1), (3, 1), (4, 1), (5, 1), (6, 1), (7, 1), (8, 1), (9, 1), (10, 1)] := ⟨_, Tryz.underlying253, fun w => by simp [Tryz.sizeOf12, Tryz.sizeOf165, Tryz.sizeOf247, Tryz.sizeOf248, Tryz.sizeOf249, Tryz.sizeOf250, Tryz.sizeOf251, Tryz.sizeOf252, Tryz.sizeOf5]⟩
instance : Fld Tryz.prog 254 0 0 := Fld.of (z := 0) (t := 12) Tryz.underlying254 rfl Tryz.sizeOf12
instance : Fld Tryz.prog 254 1 1 := Fld.of (z := 0) (t := 12) Tryz.underlying254 rfl Tryz.sizeOf12
instance : Fld Tryz.prog 254 2 2 := Fld.of (z := 0) (t := 165) Tryz.underlying254 rfl Tryz.sizeOf165
instance : Fld Tryz.prog 254 3 3 := Fld.of (z := 0) (t := 247) Tryz.underlying254 rfl Tryz.sizeOf247
instance : Fld Tryz.prog 254 4 4 := Fld.of (z := 0) (t := 5) Tryz.underlying254 rfl Tryz.sizeOf5
instance : Fld Tryz.prog 254 5 5 := Fld.of (z := 0) (t := 5) Tryz.underlying254 rfl Tryz.sizeOf5
instance : Fld Tryz.prog 254 6 6 := Fld.of (z := 0) (t := 248) Tryz.underlying254 rfl Tryz.sizeOf248
instance : Fld Tryz.prog 254 7 7 := Fld.of (z := 0) (t := 249) Tryz.underlying254 rfl Tryz.sizeOf249
instance : Fld Tryz.prog 254 8 8 := Fld.of (z := 0) (t := 250) Tryz.underlying254 rfl Tryz.sizeOf250
instance : Fld Tryz.prog 254 9 9 := Fld.of (z := 0) (t := 251) Tryz.underlying254 rfl Tryz.sizeOf251
instance : Fld Tryz.prog 254 10 10 := Fld.of (z := 0) (t := 252) Tryz.underlying254 rfl Tryz.sizeOf252
instance : Places Tryz.prog 254 [(0, 1), (1, 1), (2, 1), (3, 1), (4, 1), (5, 1), (6, 1), (7, 1), (8, 1), (9, 1), (10, 1)] := ⟨_, Tryz.underlying254, fun w => by simp [Tryz.sizeOf12, Tryz.sizeOf165, Tryz.sizeOf247, Tryz.sizeOf248, Tryz.sizeOf249, Tryz.sizeOf250, Tryz.sizeOf251, Tryz.sizeOf252, Tryz.sizeOf5]⟩
instance : Fld Tryz.prog 255 0 0 := Fld.of (z := 2) (t := 57) Tryz.underlying255 rfl Tryz.sizeOf57
instance : Places Tryz.prog 255 [(0, 3)] := ⟨_, Tryz.underlying255, fun w => by simp [Tryz.sizeOf57]⟩
instance : Fld Tryz.prog 256 0 0 := Fld.of (z := 2) (t := 57) Tryz.underlying256 rfl Tryz.sizeOf57
instance : Places Tryz.prog 256 [(0, 3)] := ⟨_, Tryz.underlying256, fun w => by simp [Tryz.sizeOf57]⟩
instance : Elem Tryz.prog 39 118 3 40 (Go.Value.agg #[Go.Value.string { data := #[] }, Go.Value.string { data := #[] }, Go.Value.int Go.IntKind.i64 0]) := ⟨Tryz.underlying39, by kernel_rfl⟩
instance : Elem Tryz.prog 53 5 1 1 (Go.Value.int Go.IntKind.u8 0) := ⟨Tryz.underlying53, by kernel_rfl⟩
instance : Elem Tryz.prog 58 57 3 40 (Go.Value.agg #[Go.Value.string { data := #[] }, Go.Value.string { data := #[] }, Go.Value.bool Bool.false]) := ⟨Tryz.underlying58, by kernel_rfl⟩
instance : Elem Tryz.prog 67 66 2 16 (Go.Value.agg #[Go.Value.int Go.IntKind.i64 0, Go.Value.int Go.IntKind.i64 0]) := ⟨Tryz.underlying67, by kernel_rfl⟩
instance : Elem Tryz.prog 70 69 2 16 (Go.Value.agg #[Go.Value.int Go.IntKind.i64 0, Go.Value.int Go.IntKind.i64 0]) := ⟨Tryz.underlying70, by kernel_rfl⟩
instance : Elem Tryz.prog 79 60 2 32 (Go.Value.agg #[Go.Value.int Go.IntKind.i64 0, Go.Value.slice Option.none 0 0]) := ⟨Tryz.underlying79, by kernel_rfl⟩
instance : Elem Tryz.prog 98 53 1 24 (Go.Value.slice Option.none 0 0) := ⟨Tryz.underlying98, by kernel_rfl⟩
instance : Elem Tryz.prog 100 4 1 1 (Go.Value.bool Bool.false) := ⟨Tryz.underlying100, by kernel_rfl⟩
instance : Elem Tryz.prog 108 114 2 32 (Go.Value.agg #[Go.Value.int Go.IntKind.i64 0, Go.Value.slice Option.none 0 0]) := ⟨Tryz.underlying108, by kernel_rfl⟩
instance : Elem Tryz.prog 109 2 1 8 (Go.Value.int Go.IntKind.i64 0) := ⟨Tryz.underlying109, by kernel_rfl⟩
instance : Elem Tryz.prog 127 129 3 40 (Go.Value.agg #[Go.Value.int Go.IntKind.i64 0, Go.Value.slice Option.none 0 0, Go.Value.bool Bool.false]) := ⟨Tryz.underlying127, by kernel_rfl⟩
instance : Elem Tryz.prog 133 137 5 56 (Go.Value.agg #[Go.Value.bool Bool.false, Go.Value.int Go.IntKind.i64 0, Go.Value.int Go.IntKind.i64 0, Go.Value.int Go.IntKind.i64 0, Go.Value.slice Option.none 0 0]) := ⟨Tryz.underlying133, by kernel_rfl⟩
instance : Elem Tryz.prog 195 3 1 8 (Go.Value.int Go.IntKind.i64 0) := ⟨Tryz.underlying195, by kernel_rfl⟩
instance : Elem Tryz.prog 208 29 1 8 (Go.Value.int Go.IntKind.i64 0) := ⟨Tryz.underlying208, by kernel_rfl⟩
end Go.Gsl
