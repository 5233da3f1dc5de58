/- The loader's facts on this program's types and functions, as instances. Printed by tools/gen_inst.py. -/
import Derived.Test.YtbmdaiopnnmamaaProg
import Derived.Test.YtbmdaiopnnmamaaGA
namespace Go.Gsl
set_option linter.unusedVariables false
open Go.Proofs
instance : NonAgg Try.prog 0 := ⟨Try.isAgg0⟩
instance : SizeOf Try.prog 0 1 := ⟨Try.sizeOf0⟩
instance : Und Try.prog 0 (Go.TypeDesc.tuple #[]) := ⟨Try.underlying0⟩
instance : ZeroOf Try.prog 0 (Go.Value.tuple #[]) := ⟨Try.zeroValue0⟩
instance : NonAgg Try.prog 1 := ⟨Try.isAgg1⟩
instance : SizeOf Try.prog 1 1 := ⟨Try.sizeOf1⟩
instance : Und Try.prog 1 (Go.TypeDesc.func #[] #[] Bool.false) := ⟨Try.underlying1⟩
instance : ZeroOf Try.prog 1 (Go.Value.nilFunc) := ⟨Try.zeroValue1⟩
instance : Body Try.prog 2 := ⟨Try.call2⟩
instance : NonAgg Try.prog 2 := ⟨Try.isAgg2⟩
instance : SizeOf Try.prog 2 1 := ⟨Try.sizeOf2⟩
instance : Und Try.prog 2 (Go.TypeDesc.int Go.IntKind.i64) := ⟨Try.underlying2⟩
instance : ZeroOf Try.prog 2 (Go.Value.int Go.IntKind.i64 0) := ⟨Try.zeroValue2⟩
instance : Body Try.prog 3 := ⟨Try.call3⟩
instance : NonAgg Try.prog 3 := ⟨Try.isAgg3⟩
instance : SizeOf Try.prog 3 1 := ⟨Try.sizeOf3⟩
instance : Und Try.prog 3 (Go.TypeDesc.int Go.IntKind.i64) := ⟨Try.underlying3⟩
instance : ZeroOf Try.prog 3 (Go.Value.int Go.IntKind.i64 0) := ⟨Try.zeroValue3⟩
instance : Body Try.prog 4 := ⟨Try.call4⟩
instance : NonAgg Try.prog 4 := ⟨Try.isAgg4⟩
instance : SizeOf Try.prog 4 1 := ⟨Try.sizeOf4⟩
instance : Und Try.prog 4 (Go.TypeDesc.bool) := ⟨Try.underlying4⟩
instance : ZeroOf Try.prog 4 (Go.Value.bool Bool.false) := ⟨Try.zeroValue4⟩
instance : Body Try.prog 5 := ⟨Try.call5⟩
instance : NonAgg Try.prog 5 := ⟨Try.isAgg5⟩
instance : SizeOf Try.prog 5 1 := ⟨Try.sizeOf5⟩
instance : Und Try.prog 5 (Go.TypeDesc.int Go.IntKind.u8) := ⟨Try.underlying5⟩
instance : ZeroOf Try.prog 5 (Go.Value.int Go.IntKind.u8 0) := ⟨Try.zeroValue5⟩
instance : Body Try.prog 6 := ⟨Try.call6⟩
instance : NonAgg Try.prog 6 := ⟨Try.isAgg6⟩
instance : SizeOf Try.prog 6 1 := ⟨Try.sizeOf6⟩
instance : Und Try.prog 6 (Go.TypeDesc.int Go.IntKind.u8) := ⟨Try.underlying6⟩
instance : ZeroOf Try.prog 6 (Go.Value.int Go.IntKind.u8 0) := ⟨Try.zeroValue6⟩
instance : Body Try.prog 7 := ⟨Try.call7⟩
instance : IsAggT Try.prog 7 := ⟨Try.isAgg7⟩
instance : SizeOf Try.prog 7 4 := ⟨Try.sizeOf7⟩
instance : Und Try.prog 7 (Go.TypeDesc.struct #[{ name := "x", type := 2, offset := 0, embedded := Bool.false, tag := "", pkgPath := "runtime", byteOffset := 0 }, { name := "y", type := 3, offset := 1, embedded := Bool.false, tag := "", pkgPath := "runtime", byteOffset := 8 }, { name := "signed", type := 4, offset := 2, embedded := Bool.false, tag := "", pkgPath := "runtime", byteOffset := 16 }, { name := "code", type := 6, offset := 3, embedded := Bool.false, tag := "", pkgPath := "runtime", byteOffset := 17 }]) := ⟨Try.underlying7⟩
instance : ZeroOf Try.prog 7 (Go.Value.agg #[Go.Value.int Go.IntKind.i64 0, Go.Value.int Go.IntKind.i64 0, Go.Value.bool Bool.false, Go.Value.int Go.IntKind.u8 0]) := ⟨Try.zeroValue7⟩
instance : Body Try.prog 8 := ⟨Try.call8⟩
instance : IsAggT Try.prog 8 := ⟨Try.isAgg8⟩
instance : SizeOf Try.prog 8 4 := ⟨Try.sizeOf8⟩
instance : Und Try.prog 8 (Go.TypeDesc.struct #[{ name := "x", type := 2, offset := 0, embedded := Bool.false, tag := "", pkgPath := "runtime", byteOffset := 0 }, { name := "y", type := 3, offset := 1, embedded := Bool.false, tag := "", pkgPath := "runtime", byteOffset := 8 }, { name := "signed", type := 4, offset := 2, embedded := Bool.false, tag := "", pkgPath := "runtime", byteOffset := 16 }, { name := "code", type := 6, offset := 3, embedded := Bool.false, tag := "", pkgPath := "runtime", byteOffset := 17 }]) := ⟨Try.underlying8⟩
instance : ZeroOf Try.prog 8 (Go.Value.agg #[Go.Value.int Go.IntKind.i64 0, Go.Value.int Go.IntKind.i64 0, Go.Value.bool Bool.false, Go.Value.int Go.IntKind.u8 0]) := ⟨Try.zeroValue8⟩
instance : Body Try.prog 9 := ⟨Try.call9⟩
instance : NonAgg Try.prog 9 := ⟨Try.isAgg9⟩
instance : SizeOf Try.prog 9 1 := ⟨Try.sizeOf9⟩
instance : Und Try.prog 9 (Go.TypeDesc.string) := ⟨Try.underlying9⟩
instance : ZeroOf Try.prog 9 (Go.Value.string { data := #[] }) := ⟨Try.zeroValue9⟩
instance : Body Try.prog 10 := ⟨Try.call10⟩
instance : NonAgg Try.prog 10 := ⟨Try.isAgg10⟩
instance : SizeOf Try.prog 10 1 := ⟨Try.sizeOf10⟩
instance : Und Try.prog 10 (Go.TypeDesc.string) := ⟨Try.underlying10⟩
instance : ZeroOf Try.prog 10 (Go.Value.string { data := #[] }) := ⟨Try.zeroValue10⟩
instance : Body Try.prog 11 := ⟨Try.call11⟩
instance : NonAgg Try.prog 11 := ⟨Try.isAgg11⟩
instance : SizeOf Try.prog 11 1 := ⟨Try.sizeOf11⟩
instance : Und Try.prog 11 (Go.TypeDesc.string) := ⟨Try.underlying11⟩
instance : ZeroOf Try.prog 11 (Go.Value.string { data := #[] }) := ⟨Try.zeroValue11⟩
instance : Body Try.prog 12 := ⟨Try.call12⟩
instance : NonAgg Try.prog 12 := ⟨Try.isAgg12⟩
instance : SizeOf Try.prog 12 1 := ⟨Try.sizeOf12⟩
instance : Und Try.prog 12 (Go.TypeDesc.int Go.IntKind.u64) := ⟨Try.underlying12⟩
instance : ZeroOf Try.prog 12 (Go.Value.int Go.IntKind.u64 0) := ⟨Try.zeroValue12⟩
instance : Body Try.prog 13 := ⟨Try.call13⟩
instance : IsAggT Try.prog 13 := ⟨Try.isAgg13⟩
instance : SizeOf Try.prog 13 2 := ⟨Try.sizeOf13⟩
instance : Und Try.prog 13 (Go.TypeDesc.struct #[{ name := "msg", type := 9, offset := 0, embedded := Bool.false, tag := "", pkgPath := "runtime", byteOffset := 0 }, { name := "addr", type := 12, offset := 1, embedded := Bool.false, tag := "", pkgPath := "runtime", byteOffset := 16 }]) := ⟨Try.underlying13⟩
instance : ZeroOf Try.prog 13 (Go.Value.agg #[Go.Value.string { data := #[] }, Go.Value.int Go.IntKind.u64 0]) := ⟨Try.zeroValue13⟩
instance : Body Try.prog 14 := ⟨Try.call14⟩
instance : IsAggT Try.prog 14 := ⟨Try.isAgg14⟩
instance : SizeOf Try.prog 14 2 := ⟨Try.sizeOf14⟩
instance : Und Try.prog 14 (Go.TypeDesc.struct #[{ name := "msg", type := 9, offset := 0, embedded := Bool.false, tag := "", pkgPath := "runtime", byteOffset := 0 }, { name := "addr", type := 12, offset := 1, embedded := Bool.false, tag := "", pkgPath := "runtime", byteOffset := 16 }]) := ⟨Try.underlying14⟩
instance : ZeroOf Try.prog 14 (Go.Value.agg #[Go.Value.string { data := #[] }, Go.Value.int Go.IntKind.u64 0]) := ⟨Try.zeroValue14⟩
instance : Body Try.prog 15 := ⟨Try.call15⟩
instance : NonAgg Try.prog 15 := ⟨Try.isAgg15⟩
instance : SizeOf Try.prog 15 1 := ⟨Try.sizeOf15⟩
instance : Und Try.prog 15 (Go.TypeDesc.pointer 192) := ⟨Try.underlying15⟩
instance : ZeroOf Try.prog 15 (Go.Value.pointer Option.none) := ⟨Try.zeroValue15⟩
instance : Body Try.prog 16 := ⟨Try.call16⟩
instance : NonAgg Try.prog 16 := ⟨Try.isAgg16⟩
instance : SizeOf Try.prog 16 1 := ⟨Try.sizeOf16⟩
instance : Und Try.prog 16 (Go.TypeDesc.pointer 195) := ⟨Try.underlying16⟩
instance : ZeroOf Try.prog 16 (Go.Value.pointer Option.none) := ⟨Try.zeroValue16⟩
instance : Body Try.prog 17 := ⟨Try.call17⟩
instance : NonAgg Try.prog 17 := ⟨Try.isAgg17⟩
instance : SizeOf Try.prog 17 1 := ⟨Try.sizeOf17⟩
instance : Und Try.prog 17 (Go.TypeDesc.pointer 203) := ⟨Try.underlying17⟩
instance : ZeroOf Try.prog 17 (Go.Value.pointer Option.none) := ⟨Try.zeroValue17⟩
instance : Body Try.prog 18 := ⟨Try.call18⟩
instance : IsAggT Try.prog 18 := ⟨Try.isAgg18⟩
instance : SizeOf Try.prog 18 1 := ⟨Try.sizeOf18⟩
instance : Und Try.prog 18 (Go.TypeDesc.struct #[{ name := "typ", type := 17, offset := 0, embedded := Bool.false, tag := "", pkgPath := "internal/runtime/maps", byteOffset := 0 }]) := ⟨Try.underlying18⟩
instance : ZeroOf Try.prog 18 (Go.Value.agg #[Go.Value.pointer Option.none]) := ⟨Try.zeroValue18⟩
instance : Body Try.prog 19 := ⟨Try.call19⟩
instance : IsAggT Try.prog 19 := ⟨Try.isAgg19⟩
instance : SizeOf Try.prog 19 1 := ⟨Try.sizeOf19⟩
instance : Und Try.prog 19 (Go.TypeDesc.struct #[{ name := "typ", type := 17, offset := 0, embedded := Bool.false, tag := "", pkgPath := "internal/runtime/maps", byteOffset := 0 }]) := ⟨Try.underlying19⟩
instance : ZeroOf Try.prog 19 (Go.Value.agg #[Go.Value.pointer Option.none]) := ⟨Try.zeroValue19⟩
instance : Body Try.prog 20 := ⟨Try.call20⟩
instance : NonAgg Try.prog 20 := ⟨Try.isAgg20⟩
instance : SizeOf Try.prog 20 1 := ⟨Try.sizeOf20⟩
instance : Und Try.prog 20 (Go.TypeDesc.interface #[]) := ⟨Try.underlying20⟩
instance : ZeroOf Try.prog 20 (Go.Value.nilIface) := ⟨Try.zeroValue20⟩
instance : Body Try.prog 21 := ⟨Try.call21⟩
instance : NonAgg Try.prog 21 := ⟨Try.isAgg21⟩
instance : SizeOf Try.prog 21 1 := ⟨Try.sizeOf21⟩
instance : Und Try.prog 21 (Go.TypeDesc.int Go.IntKind.i32) := ⟨Try.underlying21⟩
instance : ZeroOf Try.prog 21 (Go.Value.int Go.IntKind.i32 0) := ⟨Try.zeroValue21⟩
instance : Body Try.prog 22 := ⟨Try.call22⟩
instance : IsAggT Try.prog 22 := ⟨Try.isAgg22⟩
instance : SizeOf Try.prog 22 4 := ⟨Try.sizeOf22⟩
instance : Und Try.prog 22 (Go.TypeDesc.struct #[{ name := "Sector", type := 2, offset := 0, embedded := Bool.false, tag := "", pkgPath := "", byteOffset := 0 }, { name := "Offset", type := 3, offset := 1, embedded := Bool.false, tag := "", pkgPath := "", byteOffset := 8 }, { name := "Number", type := 2, offset := 2, embedded := Bool.false, tag := "", pkgPath := "", byteOffset := 16 }, { name := "Run", type := 2, offset := 3, embedded := Bool.false, tag := "", pkgPath := "", byteOffset := 24 }]) := ⟨Try.underlying22⟩
instance : ZeroOf Try.prog 22 (Go.Value.agg #[Go.Value.int Go.IntKind.i64 0, Go.Value.int Go.IntKind.i64 0, Go.Value.int Go.IntKind.i64 0, Go.Value.int Go.IntKind.i64 0]) := ⟨Try.zeroValue22⟩
instance : Body Try.prog 23 := ⟨Try.call23⟩
instance : IsAggT Try.prog 23 := ⟨Try.isAgg23⟩
instance : SizeOf Try.prog 23 4 := ⟨Try.sizeOf23⟩
instance : Und Try.prog 23 (Go.TypeDesc.struct #[{ name := "Sector", type := 2, offset := 0, embedded := Bool.false, tag := "", pkgPath := "", byteOffset := 0 }, { name := "Offset", type := 3, offset := 1, embedded := Bool.false, tag := "", pkgPath := "", byteOffset := 8 }, { name := "Number", type := 2, offset := 2, embedded := Bool.false, tag := "", pkgPath := "", byteOffset := 16 }, { name := "Run", type := 2, offset := 3, embedded := Bool.false, tag := "", pkgPath := "", byteOffset := 24 }]) := ⟨Try.underlying23⟩
instance : ZeroOf Try.prog 23 (Go.Value.agg #[Go.Value.int Go.IntKind.i64 0, Go.Value.int Go.IntKind.i64 0, Go.Value.int Go.IntKind.i64 0, Go.Value.int Go.IntKind.i64 0]) := ⟨Try.zeroValue23⟩
instance : Body Try.prog 24 := ⟨Try.call24⟩
instance : NonAgg Try.prog 24 := ⟨Try.isAgg24⟩
instance : SizeOf Try.prog 24 1 := ⟨Try.sizeOf24⟩
instance : Und Try.prog 24 (Go.TypeDesc.slice 5) := ⟨Try.underlying24⟩
instance : ZeroOf Try.prog 24 (Go.Value.slice Option.none 0 0) := ⟨Try.zeroValue24⟩
instance : Body Try.prog 25 := ⟨Try.call25⟩
instance : NonAgg Try.prog 25 := ⟨Try.isAgg25⟩
instance : SizeOf Try.prog 25 1 := ⟨Try.sizeOf25⟩
instance : Und Try.prog 25 (Go.TypeDesc.int Go.IntKind.i64) := ⟨Try.underlying25⟩
instance : ZeroOf Try.prog 25 (Go.Value.int Go.IntKind.i64 0) := ⟨Try.zeroValue25⟩
instance : Body Try.prog 26 := ⟨Try.call26⟩
instance : NonAgg Try.prog 26 := ⟨Try.isAgg26⟩
instance : SizeOf Try.prog 26 1 := ⟨Try.sizeOf26⟩
instance : Und Try.prog 26 (Go.TypeDesc.tuple #[24, 25]) := ⟨Try.underlying26⟩
instance : ZeroOf Try.prog 26 (Go.Value.tuple #[Go.Value.slice Option.none 0 0, Go.Value.int Go.IntKind.i64 0]) := ⟨Try.zeroValue26⟩
instance : Body Try.prog 27 := ⟨Try.call27⟩
instance : NonAgg Try.prog 27 := ⟨Try.isAgg27⟩
instance : SizeOf Try.prog 27 1 := ⟨Try.sizeOf27⟩
instance : Und Try.prog 27 (Go.TypeDesc.func #[2, 2, 2, 24] #[24, 25] Bool.false) := ⟨Try.underlying27⟩
instance : ZeroOf Try.prog 27 (Go.Value.nilFunc) := ⟨Try.zeroValue27⟩
instance : Body Try.prog 28 := ⟨Try.call28⟩
instance : NonAgg Try.prog 28 := ⟨Try.isAgg28⟩
instance : SizeOf Try.prog 28 1 := ⟨Try.sizeOf28⟩
instance : Und Try.prog 28 (Go.TypeDesc.func #[] #[4] Bool.false) := ⟨Try.underlying28⟩
instance : ZeroOf Try.prog 28 (Go.Value.nilFunc) := ⟨Try.zeroValue28⟩
instance : Body Try.prog 29 := ⟨Try.call29⟩
instance : NonAgg Try.prog 29 := ⟨Try.isAgg29⟩
instance : SizeOf Try.prog 29 1 := ⟨Try.sizeOf29⟩
instance : Und Try.prog 29 (Go.TypeDesc.func #[24, 24] #[4] Bool.false) := ⟨Try.underlying29⟩
instance : ZeroOf Try.prog 29 (Go.Value.nilFunc) := ⟨Try.zeroValue29⟩
instance : Body Try.prog 30 := ⟨Try.call30⟩
instance : NonAgg Try.prog 30 := ⟨Try.isAgg30⟩
instance : SizeOf Try.prog 30 1 := ⟨Try.sizeOf30⟩
instance : Und Try.prog 30 (Go.TypeDesc.tuple #[2, 2, 2, 24, 25]) := ⟨Try.underlying30⟩
instance : ZeroOf Try.prog 30 (Go.Value.tuple #[Go.Value.int Go.IntKind.i64 0, Go.Value.int Go.IntKind.i64 0, Go.Value.int Go.IntKind.i64 0, Go.Value.slice Option.none 0 0, Go.Value.int Go.IntKind.i64 0]) := ⟨Try.zeroValue30⟩
instance : Body Try.prog 31 := ⟨Try.call31⟩
instance : NonAgg Try.prog 31 := ⟨Try.isAgg31⟩
instance : SizeOf Try.prog 31 1 := ⟨Try.sizeOf31⟩
instance : Und Try.prog 31 (Go.TypeDesc.func #[24] #[2, 2, 2, 24, 25] Bool.false) := ⟨Try.underlying31⟩
instance : ZeroOf Try.prog 31 (Go.Value.nilFunc) := ⟨Try.zeroValue31⟩
instance : Body Try.prog 32 := ⟨Try.call32⟩
instance : NonAgg Try.prog 32 := ⟨Try.isAgg32⟩
instance : SizeOf Try.prog 32 1 := ⟨Try.sizeOf32⟩
instance : Und Try.prog 32 (Go.TypeDesc.func #[23, 24, 24] #[4] Bool.false) := ⟨Try.underlying32⟩
instance : ZeroOf Try.prog 32 (Go.Value.nilFunc) := ⟨Try.zeroValue32⟩
instance : Body Try.prog 33 := ⟨Try.call33⟩
instance : IsAggT Try.prog 33 := ⟨Try.isAgg33⟩
instance : SizeOf Try.prog 33 8 := ⟨Try.sizeOf33⟩
instance : Und Try.prog 33 (Go.TypeDesc.struct #[{ name := "Seq", type := 2, offset := 0, embedded := Bool.false, tag := "", pkgPath := "", byteOffset := 0 }, { name := "Area", type := 3, offset := 1, embedded := Bool.false, tag := "", pkgPath := "", byteOffset := 8 }, { name := "Chunks", type := 3, offset := 2, embedded := Bool.false, tag := "", pkgPath := "", byteOffset := 16 }, { name := "TS", type := 2, offset := 3, embedded := Bool.false, tag := "", pkgPath := "", byteOffset := 24 }, { name := "Mark", type := 23, offset := 4, embedded := Bool.false, tag := "", pkgPath := "", byteOffset := 32 }]) := ⟨Try.underlying33⟩
instance : ZeroOf Try.prog 33 (Go.Value.agg #[Go.Value.int Go.IntKind.i64 0, Go.Value.int Go.IntKind.i64 0, Go.Value.int Go.IntKind.i64 0, Go.Value.int Go.IntKind.i64 0, Go.Value.int Go.IntKind.i64 0, Go.Value.int Go.IntKind.i64 0, Go.Value.int Go.IntKind.i64 0, Go.Value.int Go.IntKind.i64 0]) := ⟨Try.zeroValue33⟩
instance : Body Try.prog 34 := ⟨Try.call34⟩
instance : IsAggT Try.prog 34 := ⟨Try.isAgg34⟩
instance : SizeOf Try.prog 34 8 := ⟨Try.sizeOf34⟩
instance : Und Try.prog 34 (Go.TypeDesc.struct #[{ name := "Seq", type := 2, offset := 0, embedded := Bool.false, tag := "", pkgPath := "", byteOffset := 0 }, { name := "Area", type := 3, offset := 1, embedded := Bool.false, tag := "", pkgPath := "", byteOffset := 8 }, { name := "Chunks", type := 3, offset := 2, embedded := Bool.false, tag := "", pkgPath := "", byteOffset := 16 }, { name := "TS", type := 2, offset := 3, embedded := Bool.false, tag := "", pkgPath := "", byteOffset := 24 }, { name := "Mark", type := 23, offset := 4, embedded := Bool.false, tag := "", pkgPath := "", byteOffset := 32 }]) := ⟨Try.underlying34⟩
instance : ZeroOf Try.prog 34 (Go.Value.agg #[Go.Value.int Go.IntKind.i64 0, Go.Value.int Go.IntKind.i64 0, Go.Value.int Go.IntKind.i64 0, Go.Value.int Go.IntKind.i64 0, Go.Value.int Go.IntKind.i64 0, Go.Value.int Go.IntKind.i64 0, Go.Value.int Go.IntKind.i64 0, Go.Value.int Go.IntKind.i64 0]) := ⟨Try.zeroValue34⟩
instance : Body Try.prog 35 := ⟨Try.call35⟩
instance : NonAgg Try.prog 35 := ⟨Try.isAgg35⟩
instance : SizeOf Try.prog 35 1 := ⟨Try.sizeOf35⟩
instance : Und Try.prog 35 (Go.TypeDesc.int Go.IntKind.u16) := ⟨Try.underlying35⟩
instance : ZeroOf Try.prog 35 (Go.Value.int Go.IntKind.u16 0) := ⟨Try.zeroValue35⟩
instance : Body Try.prog 36 := ⟨Try.call36⟩
instance : NonAgg Try.prog 36 := ⟨Try.isAgg36⟩
instance : SizeOf Try.prog 36 1 := ⟨Try.sizeOf36⟩
instance : Und Try.prog 36 (Go.TypeDesc.func #[34] #[24, 25] Bool.false) := ⟨Try.underlying36⟩
instance : ZeroOf Try.prog 36 (Go.Value.nilFunc) := ⟨Try.zeroValue36⟩
instance : Body Try.prog 37 := ⟨Try.call37⟩
instance : NonAgg Try.prog 37 := ⟨Try.isAgg37⟩
instance : SizeOf Try.prog 37 1 := ⟨Try.sizeOf37⟩
instance : Und Try.prog 37 (Go.TypeDesc.tuple #[34, 25]) := ⟨Try.underlying37⟩
instance : ZeroOf Try.prog 37 (Go.Value.tuple #[Go.Value.agg #[Go.Value.int Go.IntKind.i64 0, Go.Value.int Go.IntKind.i64 0, Go.Value.int Go.IntKind.i64 0, Go.Value.int Go.IntKind.i64 0, Go.Value.int Go.IntKind.i64 0, Go.Value.int Go.IntKind.i64 0, Go.Value.int Go.IntKind.i64 0, Go.Value.int Go.IntKind.i64 0], Go.Value.int Go.IntKind.i64 0]) := ⟨Try.zeroValue37⟩
instance : Body Try.prog 38 := ⟨Try.call38⟩
instance : NonAgg Try.prog 38 := ⟨Try.isAgg38⟩
instance : SizeOf Try.prog 38 1 := ⟨Try.sizeOf38⟩
instance : Und Try.prog 38 (Go.TypeDesc.func #[24] #[34, 25] Bool.false) := ⟨Try.underlying38⟩
instance : ZeroOf Try.prog 38 (Go.Value.nilFunc) := ⟨Try.zeroValue38⟩
instance : Body Try.prog 39 := ⟨Try.call39⟩
instance : NonAgg Try.prog 39 := ⟨Try.isAgg39⟩
instance : SizeOf Try.prog 39 1 := ⟨Try.sizeOf39⟩
instance : Und Try.prog 39 (Go.TypeDesc.func #[34, 35] #[4] Bool.false) := ⟨Try.underlying39⟩
instance : ZeroOf Try.prog 39 (Go.Value.nilFunc) := ⟨Try.zeroValue39⟩
instance : Body Try.prog 40 := ⟨Try.call40⟩
instance : NonAgg Try.prog 40 := ⟨Try.isAgg40⟩
instance : SizeOf Try.prog 40 1 := ⟨Try.sizeOf40⟩
instance : Und Try.prog 40 (Go.TypeDesc.pointer 45) := ⟨Try.underlying40⟩
instance : ZeroOf Try.prog 40 (Go.Value.pointer Option.none) := ⟨Try.zeroValue40⟩
instance : Body Try.prog 41 := ⟨Try.call41⟩
instance : NonAgg Try.prog 41 := ⟨Try.isAgg41⟩
instance : SizeOf Try.prog 41 1 := ⟨Try.sizeOf41⟩
instance : Und Try.prog 41 (Go.TypeDesc.slice 24) := ⟨Try.underlying41⟩
instance : ZeroOf Try.prog 41 (Go.Value.slice Option.none 0 0) := ⟨Try.zeroValue41⟩
instance : Body Try.prog 42 := ⟨Try.call42⟩
instance : NonAgg Try.prog 42 := ⟨Try.isAgg42⟩
instance : SizeOf Try.prog 42 1 := ⟨Try.sizeOf42⟩
instance : Und Try.prog 42 (Go.TypeDesc.map 3 24) := ⟨Try.underlying42⟩
instance : ZeroOf Try.prog 42 (Go.Value.map Option.none) := ⟨Try.zeroValue42⟩
instance : Body Try.prog 43 := ⟨Try.call43⟩
instance : NonAgg Try.prog 43 := ⟨Try.isAgg43⟩
instance : SizeOf Try.prog 43 1 := ⟨Try.sizeOf43⟩
instance : Und Try.prog 43 (Go.TypeDesc.slice 4) := ⟨Try.underlying43⟩
instance : ZeroOf Try.prog 43 (Go.Value.slice Option.none 0 0) := ⟨Try.zeroValue43⟩
instance : Body Try.prog 44 := ⟨Try.call44⟩
instance : IsAggT Try.prog 44 := ⟨Try.isAgg44⟩
instance : SizeOf Try.prog 44 6 := ⟨Try.sizeOf44⟩
instance : Und Try.prog 44 (Go.TypeDesc.struct #[{ name := "sure", type := 41, offset := 0, embedded := Bool.false, tag := "", pkgPath := "cresset/disk", byteOffset := 0 }, { name := "dirty", type := 42, offset := 1, embedded := Bool.false, tag := "", pkgPath := "cresset/disk", byteOffset := 24 }, { name := "down", type := 4, offset := 2, embedded := Bool.false, tag := "", pkgPath := "cresset/disk", byteOffset := 32 }, { name := "calls", type := 2, offset := 3, embedded := Bool.false, tag := "", pkgPath := "cresset/disk", byteOffset := 40 }, { name := "fuse", type := 3, offset := 4, embedded := Bool.false, tag := "", pkgPath := "cresset/disk", byteOffset := 48 }, { name := "keep", type := 43, offset := 5, embedded := Bool.false, tag := "", pkgPath := "cresset/disk", byteOffset := 56 }]) := ⟨Try.underlying44⟩
instance : ZeroOf Try.prog 44 (Go.Value.agg #[Go.Value.slice Option.none 0 0, Go.Value.map Option.none, Go.Value.bool Bool.false, Go.Value.int Go.IntKind.i64 0, Go.Value.int Go.IntKind.i64 0, Go.Value.slice Option.none 0 0]) := ⟨Try.zeroValue44⟩
instance : Body Try.prog 45 := ⟨Try.call45⟩
instance : IsAggT Try.prog 45 := ⟨Try.isAgg45⟩
instance : SizeOf Try.prog 45 6 := ⟨Try.sizeOf45⟩
instance : Und Try.prog 45 (Go.TypeDesc.struct #[{ name := "sure", type := 41, offset := 0, embedded := Bool.false, tag := "", pkgPath := "cresset/disk", byteOffset := 0 }, { name := "dirty", type := 42, offset := 1, embedded := Bool.false, tag := "", pkgPath := "cresset/disk", byteOffset := 24 }, { name := "down", type := 4, offset := 2, embedded := Bool.false, tag := "", pkgPath := "cresset/disk", byteOffset := 32 }, { name := "calls", type := 2, offset := 3, embedded := Bool.false, tag := "", pkgPath := "cresset/disk", byteOffset := 40 }, { name := "fuse", type := 3, offset := 4, embedded := Bool.false, tag := "", pkgPath := "cresset/disk", byteOffset := 48 }, { name := "keep", type := 43, offset := 5, embedded := Bool.false, tag := "", pkgPath := "cresset/disk", byteOffset := 56 }]) := ⟨Try.underlying45⟩
instance : ZeroOf Try.prog 45 (Go.Value.agg #[Go.Value.slice Option.none 0 0, Go.Value.map Option.none, Go.Value.bool Bool.false, Go.Value.int Go.IntKind.i64 0, Go.Value.int Go.IntKind.i64 0, Go.Value.slice Option.none 0 0]) := ⟨Try.zeroValue45⟩
instance : Body Try.prog 46 := ⟨Try.call46⟩
instance : NonAgg Try.prog 46 := ⟨Try.isAgg46⟩
instance : SizeOf Try.prog 46 1 := ⟨Try.sizeOf46⟩
instance : Und Try.prog 46 (Go.TypeDesc.slice 40) := ⟨Try.underlying46⟩
instance : ZeroOf Try.prog 46 (Go.Value.slice Option.none 0 0) := ⟨Try.zeroValue46⟩
instance : Body Try.prog 47 := ⟨Try.call47⟩
instance : NonAgg Try.prog 47 := ⟨Try.isAgg47⟩
instance : SizeOf Try.prog 47 1 := ⟨Try.sizeOf47⟩
instance : Und Try.prog 47 (Go.TypeDesc.func #[40, 3] #[34, 25] Bool.false) := ⟨Try.underlying47⟩
instance : ZeroOf Try.prog 47 (Go.Value.nilFunc) := ⟨Try.zeroValue47⟩
instance : Body Try.prog 48 := ⟨Try.call48⟩
instance : NonAgg Try.prog 48 := ⟨Try.isAgg48⟩
instance : SizeOf Try.prog 48 1 := ⟨Try.sizeOf48⟩
instance : Und Try.prog 48 (Go.TypeDesc.func #[3] #[3] Bool.false) := ⟨Try.underlying48⟩
instance : ZeroOf Try.prog 48 (Go.Value.nilFunc) := ⟨Try.zeroValue48⟩
instance : Body Try.prog 49 := ⟨Try.call49⟩
instance : IsAggT Try.prog 49 := ⟨Try.isAgg49⟩
instance : SizeOf Try.prog 49 16 := ⟨Try.sizeOf49⟩
instance : Und Try.prog 49 (Go.TypeDesc.array 2 34) := ⟨Try.underlying49⟩
instance : ZeroOf Try.prog 49 (Go.Value.agg #[Go.Value.int Go.IntKind.i64 0, Go.Value.int Go.IntKind.i64 0, Go.Value.int Go.IntKind.i64 0, Go.Value.int Go.IntKind.i64 0, Go.Value.int Go.IntKind.i64 0, Go.Value.int Go.IntKind.i64 0, Go.Value.int Go.IntKind.i64 0, Go.Value.int Go.IntKind.i64 0, Go.Value.int Go.IntKind.i64 0, Go.Value.int Go.IntKind.i64 0, Go.Value.int Go.IntKind.i64 0, Go.Value.int Go.IntKind.i64 0, Go.Value.int Go.IntKind.i64 0, Go.Value.int Go.IntKind.i64 0, Go.Value.int Go.IntKind.i64 0, Go.Value.int Go.IntKind.i64 0]) := ⟨Try.zeroValue49⟩
instance : Body Try.prog 50 := ⟨Try.call50⟩
instance : IsAggT Try.prog 50 := ⟨Try.isAgg50⟩
instance : SizeOf Try.prog 50 2 := ⟨Try.sizeOf50⟩
instance : Und Try.prog 50 (Go.TypeDesc.array 2 25) := ⟨Try.underlying50⟩
instance : ZeroOf Try.prog 50 (Go.Value.agg #[Go.Value.int Go.IntKind.i64 0, Go.Value.int Go.IntKind.i64 0]) := ⟨Try.zeroValue50⟩
instance : Body Try.prog 51 := ⟨Try.call51⟩
instance : NonAgg Try.prog 51 := ⟨Try.isAgg51⟩
instance : SizeOf Try.prog 51 1 := ⟨Try.sizeOf51⟩
instance : Und Try.prog 51 (Go.TypeDesc.tuple #[49, 50]) := ⟨Try.underlying51⟩
instance : ZeroOf Try.prog 51 (Go.Value.tuple #[Go.Value.agg #[Go.Value.int Go.IntKind.i64 0, Go.Value.int Go.IntKind.i64 0, Go.Value.int Go.IntKind.i64 0, Go.Value.int Go.IntKind.i64 0, Go.Value.int Go.IntKind.i64 0, Go.Value.int Go.IntKind.i64 0, Go.Value.int Go.IntKind.i64 0, Go.Value.int Go.IntKind.i64 0, Go.Value.int Go.IntKind.i64 0, Go.Value.int Go.IntKind.i64 0, Go.Value.int Go.IntKind.i64 0, Go.Value.int Go.IntKind.i64 0, Go.Value.int Go.IntKind.i64 0, Go.Value.int Go.IntKind.i64 0, Go.Value.int Go.IntKind.i64 0, Go.Value.int Go.IntKind.i64 0], Go.Value.agg #[Go.Value.int Go.IntKind.i64 0, Go.Value.int Go.IntKind.i64 0]]) := ⟨Try.zeroValue51⟩
instance : Body Try.prog 52 := ⟨Try.call52⟩
instance : NonAgg Try.prog 52 := ⟨Try.isAgg52⟩
instance : SizeOf Try.prog 52 1 := ⟨Try.sizeOf52⟩
instance : Und Try.prog 52 (Go.TypeDesc.func #[40, 3] #[49, 50] Bool.false) := ⟨Try.underlying52⟩
instance : ZeroOf Try.prog 52 (Go.Value.nilFunc) := ⟨Try.zeroValue52⟩
instance : Body Try.prog 53 := ⟨Try.call53⟩
instance : NonAgg Try.prog 53 := ⟨Try.isAgg53⟩
instance : SizeOf Try.prog 53 1 := ⟨Try.sizeOf53⟩
instance : Und Try.prog 53 (Go.TypeDesc.func #[40, 3, 34] #[25] Bool.false) := ⟨Try.underlying53⟩
instance : ZeroOf Try.prog 53 (Go.Value.nilFunc) := ⟨Try.zeroValue53⟩
instance : Body Try.prog 54 := ⟨Try.call54⟩
instance : NonAgg Try.prog 54 := ⟨Try.isAgg54⟩
instance : SizeOf Try.prog 54 1 := ⟨Try.sizeOf54⟩
instance : Und Try.prog 54 (Go.TypeDesc.func #[34, 3] #[4] Bool.false) := ⟨Try.underlying54⟩
instance : ZeroOf Try.prog 54 (Go.Value.nilFunc) := ⟨Try.zeroValue54⟩
instance : Body Try.prog 55 := ⟨Try.call55⟩
instance : NonAgg Try.prog 55 := ⟨Try.isAgg55⟩
instance : SizeOf Try.prog 55 1 := ⟨Try.sizeOf55⟩
instance : Und Try.prog 55 (Go.TypeDesc.func #[34, 3, 2, 23] #[34] Bool.false) := ⟨Try.underlying55⟩
instance : ZeroOf Try.prog 55 (Go.Value.nilFunc) := ⟨Try.zeroValue55⟩
instance : Body Try.prog 56 := ⟨Try.call56⟩
instance : NonAgg Try.prog 56 := ⟨Try.isAgg56⟩
instance : SizeOf Try.prog 56 1 := ⟨Try.sizeOf56⟩
instance : Und Try.prog 56 (Go.TypeDesc.func #[3, 34] #[3] Bool.false) := ⟨Try.underlying56⟩
instance : ZeroOf Try.prog 56 (Go.Value.nilFunc) := ⟨Try.zeroValue56⟩
instance : Body Try.prog 57 := ⟨Try.call57⟩
instance : NonAgg Try.prog 57 := ⟨Try.isAgg57⟩
instance : SizeOf Try.prog 57 1 := ⟨Try.sizeOf57⟩
instance : Und Try.prog 57 (Go.TypeDesc.func #[34, 3, 2, 23, 3] #[4] Bool.false) := ⟨Try.underlying57⟩
instance : ZeroOf Try.prog 57 (Go.Value.nilFunc) := ⟨Try.zeroValue57⟩
instance : Body Try.prog 58 := ⟨Try.call58⟩
instance : NonAgg Try.prog 58 := ⟨Try.isAgg58⟩
instance : SizeOf Try.prog 58 1 := ⟨Try.sizeOf58⟩
instance : Und Try.prog 58 (Go.TypeDesc.func #[34, 24] #[4] Bool.false) := ⟨Try.underlying58⟩
instance : ZeroOf Try.prog 58 (Go.Value.nilFunc) := ⟨Try.zeroValue58⟩
instance : Body Try.prog 59 := ⟨Try.call59⟩
instance : NonAgg Try.prog 59 := ⟨Try.isAgg59⟩
instance : SizeOf Try.prog 59 1 := ⟨Try.sizeOf59⟩
instance : Und Try.prog 59 (Go.TypeDesc.tuple #[40, 25]) := ⟨Try.underlying59⟩
instance : ZeroOf Try.prog 59 (Go.Value.tuple #[Go.Value.pointer Option.none, Go.Value.int Go.IntKind.i64 0]) := ⟨Try.zeroValue59⟩
instance : Body Try.prog 60 := ⟨Try.call60⟩
instance : NonAgg Try.prog 60 := ⟨Try.isAgg60⟩
instance : SizeOf Try.prog 60 1 := ⟨Try.sizeOf60⟩
instance : Und Try.prog 60 (Go.TypeDesc.func #[3] #[40, 25] Bool.false) := ⟨Try.underlying60⟩
instance : ZeroOf Try.prog 60 (Go.Value.nilFunc) := ⟨Try.zeroValue60⟩
instance : Body Try.prog 61 := ⟨Try.call61⟩
instance : NonAgg Try.prog 61 := ⟨Try.isAgg61⟩
instance : SizeOf Try.prog 61 1 := ⟨Try.sizeOf61⟩
instance : Und Try.prog 61 (Go.TypeDesc.pointer 80) := ⟨Try.underlying61⟩
instance : ZeroOf Try.prog 61 (Go.Value.pointer Option.none) := ⟨Try.zeroValue61⟩
instance : Body Try.prog 62 := ⟨Try.call62⟩
instance : NonAgg Try.prog 62 := ⟨Try.isAgg62⟩
instance : SizeOf Try.prog 62 1 := ⟨Try.sizeOf62⟩
instance : Und Try.prog 62 (Go.TypeDesc.tuple #[61, 25]) := ⟨Try.underlying62⟩
instance : ZeroOf Try.prog 62 (Go.Value.tuple #[Go.Value.pointer Option.none, Go.Value.int Go.IntKind.i64 0]) := ⟨Try.zeroValue62⟩
instance : Body Try.prog 63 := ⟨Try.call63⟩
instance : NonAgg Try.prog 63 := ⟨Try.isAgg63⟩
instance : SizeOf Try.prog 63 1 := ⟨Try.sizeOf63⟩
instance : Und Try.prog 63 (Go.TypeDesc.func #[40, 3, 3, 23] #[61, 25] Bool.false) := ⟨Try.underlying63⟩
instance : ZeroOf Try.prog 63 (Go.Value.nilFunc) := ⟨Try.zeroValue63⟩
instance : Body Try.prog 64 := ⟨Try.call64⟩
instance : NonAgg Try.prog 64 := ⟨Try.isAgg64⟩
instance : SizeOf Try.prog 64 1 := ⟨Try.sizeOf64⟩
instance : Und Try.prog 64 (Go.TypeDesc.func #[24] #[24] Bool.false) := ⟨Try.underlying64⟩
instance : ZeroOf Try.prog 64 (Go.Value.nilFunc) := ⟨Try.zeroValue64⟩
instance : Body Try.prog 65 := ⟨Try.call65⟩
instance : NonAgg Try.prog 65 := ⟨Try.isAgg65⟩
instance : SizeOf Try.prog 65 1 := ⟨Try.sizeOf65⟩
instance : Und Try.prog 65 (Go.TypeDesc.tuple #[2, 25]) := ⟨Try.underlying65⟩
instance : ZeroOf Try.prog 65 (Go.Value.tuple #[Go.Value.int Go.IntKind.i64 0, Go.Value.int Go.IntKind.i64 0]) := ⟨Try.zeroValue65⟩
instance : Body Try.prog 66 := ⟨Try.call66⟩
instance : NonAgg Try.prog 66 := ⟨Try.isAgg66⟩
instance : SizeOf Try.prog 66 1 := ⟨Try.sizeOf66⟩
instance : Und Try.prog 66 (Go.TypeDesc.func #[24] #[2, 25] Bool.true) := ⟨Try.underlying66⟩
instance : ZeroOf Try.prog 66 (Go.Value.nilFunc) := ⟨Try.zeroValue66⟩
instance : Body Try.prog 67 := ⟨Try.call67⟩
instance : NonAgg Try.prog 67 := ⟨Try.isAgg67⟩
instance : SizeOf Try.prog 67 1 := ⟨Try.sizeOf67⟩
instance : Und Try.prog 67 (Go.TypeDesc.func #[124] #[] Bool.false) := ⟨Try.underlying67⟩
instance : ZeroOf Try.prog 67 (Go.Value.nilFunc) := ⟨Try.zeroValue67⟩
instance : Body Try.prog 68 := ⟨Try.call68⟩
instance : NonAgg Try.prog 68 := ⟨Try.isAgg68⟩
instance : SizeOf Try.prog 68 1 := ⟨Try.sizeOf68⟩
instance : Und Try.prog 68 (Go.TypeDesc.func #[124] #[] Bool.false) := ⟨Try.underlying68⟩
instance : ZeroOf Try.prog 68 (Go.Value.nilFunc) := ⟨Try.zeroValue68⟩
instance : Body Try.prog 69 := ⟨Try.call69⟩
instance : NonAgg Try.prog 69 := ⟨Try.isAgg69⟩
instance : SizeOf Try.prog 69 1 := ⟨Try.sizeOf69⟩
instance : Und Try.prog 69 (Go.TypeDesc.func #[] #[68] Bool.false) := ⟨Try.underlying69⟩
instance : ZeroOf Try.prog 69 (Go.Value.nilFunc) := ⟨Try.zeroValue69⟩
instance : Body Try.prog 70 := ⟨Try.call70⟩
instance : NonAgg Try.prog 70 := ⟨Try.isAgg70⟩
instance : SizeOf Try.prog 70 1 := ⟨Try.sizeOf70⟩
instance : Und Try.prog 70 (Go.TypeDesc.func #[24] #[4] Bool.false) := ⟨Try.underlying70⟩
instance : ZeroOf Try.prog 70 (Go.Value.nilFunc) := ⟨Try.zeroValue70⟩
instance : Body Try.prog 71 := ⟨Try.call71⟩
instance : NonAgg Try.prog 71 := ⟨Try.isAgg71⟩
instance : SizeOf Try.prog 71 1 := ⟨Try.sizeOf71⟩
instance : Und Try.prog 71 (Go.TypeDesc.int Go.IntKind.u32) := ⟨Try.underlying71⟩
instance : ZeroOf Try.prog 71 (Go.Value.int Go.IntKind.u32 0) := ⟨Try.zeroValue71⟩
instance : Body Try.prog 72 := ⟨Try.call72⟩
instance : NonAgg Try.prog 72 := ⟨Try.isAgg72⟩
instance : SizeOf Try.prog 72 1 := ⟨Try.sizeOf72⟩
instance : Und Try.prog 72 (Go.TypeDesc.func #[] #[34] Bool.false) := ⟨Try.underlying72⟩
instance : ZeroOf Try.prog 72 (Go.Value.nilFunc) := ⟨Try.zeroValue72⟩
instance : Body Try.prog 73 := ⟨Try.call73⟩
instance : NonAgg Try.prog 73 := ⟨Try.isAgg73⟩
instance : SizeOf Try.prog 73 1 := ⟨Try.sizeOf73⟩
instance : Und Try.prog 73 (Go.TypeDesc.func #[3, 43] #[25] Bool.true) := ⟨Try.underlying73⟩
instance : ZeroOf Try.prog 73 (Go.Value.nilFunc) := ⟨Try.zeroValue73⟩
instance : Body Try.prog 74 := ⟨Try.call74⟩
instance : NonAgg Try.prog 74 := ⟨Try.isAgg74⟩
instance : SizeOf Try.prog 74 1 := ⟨Try.sizeOf74⟩
instance : Und Try.prog 74 (Go.TypeDesc.func #[43] #[25] Bool.true) := ⟨Try.underlying74⟩
instance : ZeroOf Try.prog 74 (Go.Value.nilFunc) := ⟨Try.zeroValue74⟩
instance : Body Try.prog 75 := ⟨Try.call75⟩
instance : NonAgg Try.prog 75 := ⟨Try.isAgg75⟩
instance : SizeOf Try.prog 75 1 := ⟨Try.sizeOf75⟩
instance : Und Try.prog 75 (Go.TypeDesc.func #[] #[25] Bool.false) := ⟨Try.underlying75⟩
instance : ZeroOf Try.prog 75 (Go.Value.nilFunc) := ⟨Try.zeroValue75⟩
instance : Body Try.prog 76 := ⟨Try.call76⟩
instance : NonAgg Try.prog 76 := ⟨Try.isAgg76⟩
instance : SizeOf Try.prog 76 1 := ⟨Try.sizeOf76⟩
instance : Und Try.prog 76 (Go.TypeDesc.func #[5, 5, 43, 5, 71] #[4] Bool.false) := ⟨Try.underlying76⟩
instance : ZeroOf Try.prog 76 (Go.Value.nilFunc) := ⟨Try.zeroValue76⟩
instance : Body Try.prog 77 := ⟨Try.call77⟩
instance : NonAgg Try.prog 77 := ⟨Try.isAgg77⟩
instance : SizeOf Try.prog 77 1 := ⟨Try.sizeOf77⟩
instance : Und Try.prog 77 (Go.TypeDesc.slice 2) := ⟨Try.underlying77⟩
instance : ZeroOf Try.prog 77 (Go.Value.slice Option.none 0 0) := ⟨Try.zeroValue77⟩
instance : Body Try.prog 78 := ⟨Try.call78⟩
instance : NonAgg Try.prog 78 := ⟨Try.isAgg78⟩
instance : SizeOf Try.prog 78 1 := ⟨Try.sizeOf78⟩
instance : Und Try.prog 78 (Go.TypeDesc.slice 122) := ⟨Try.underlying78⟩
instance : ZeroOf Try.prog 78 (Go.Value.slice Option.none 0 0) := ⟨Try.zeroValue78⟩
instance : Body Try.prog 79 := ⟨Try.call79⟩
instance : IsAggT Try.prog 79 := ⟨Try.isAgg79⟩
instance : SizeOf Try.prog 79 16 := ⟨Try.sizeOf79⟩
instance : Und Try.prog 79 (Go.TypeDesc.struct #[{ name := "d", type := 40, offset := 0, embedded := Bool.false, tag := "", pkgPath := "cresset/wal", byteOffset := 0 }, { name := "from", type := 3, offset := 1, embedded := Bool.false, tag := "", pkgPath := "cresset/wal", byteOffset := 8 }, { name := "sectors", type := 3, offset := 2, embedded := Bool.false, tag := "", pkgPath := "cresset/wal", byteOffset := 16 }, { name := "run", type := 2, offset := 3, embedded := Bool.false, tag := "", pkgPath := "cresset/wal", byteOffset := 24 }, { name := "began", type := 2, offset := 4, embedded := Bool.false, tag := "", pkgPath := "cresset/wal", byteOffset := 32 }, { name := "base", type := 2, offset := 5, embedded := Bool.false, tag := "", pkgPath := "cresset/wal", byteOffset := 40 }, { name := "row", type := 24, offset := 6, embedded := Bool.false, tag := "", pkgPath := "cresset/wal", byteOffset := 48 }, { name := "runs", type := 77, offset := 7, embedded := Bool.false, tag := "", pkgPath := "cresset/wal", byteOffset := 72 }, { name := "first", type := 23, offset := 8, embedded := Bool.false, tag := "", pkgPath := "cresset/wal", byteOffset := 96 }, { name := "l", type := 78, offset := 12, embedded := Bool.false, tag := "", pkgPath := "cresset/wal", byteOffset := 128 }, { name := "sure", type := 2, offset := 13, embedded := Bool.false, tag := "", pkgPath := "cresset/wal", byteOffset := 152 }, { name := "flushed", type := 2, offset := 14, embedded := Bool.false, tag := "", pkgPath := "cresset/wal", byteOffset := 160 }, { name := "dirty", type := 4, offset := 15, embedded := Bool.false, tag := "", pkgPath := "cresset/wal", byteOffset := 168 }]) := ⟨Try.underlying79⟩
instance : ZeroOf Try.prog 79 (Go.Value.agg #[Go.Value.pointer Option.none, Go.Value.int Go.IntKind.i64 0, Go.Value.int Go.IntKind.i64 0, Go.Value.int Go.IntKind.i64 0, Go.Value.int Go.IntKind.i64 0, Go.Value.int Go.IntKind.i64 0, Go.Value.slice Option.none 0 0, Go.Value.slice Option.none 0 0, Go.Value.int Go.IntKind.i64 0, Go.Value.int Go.IntKind.i64 0, Go.Value.int Go.IntKind.i64 0, Go.Value.int Go.IntKind.i64 0, Go.Value.slice Option.none 0 0, Go.Value.int Go.IntKind.i64 0, Go.Value.int Go.IntKind.i64 0, Go.Value.bool Bool.false]) := ⟨Try.zeroValue79⟩
instance : Body Try.prog 80 := ⟨Try.call80⟩
instance : IsAggT Try.prog 80 := ⟨Try.isAgg80⟩
instance : SizeOf Try.prog 80 16 := ⟨Try.sizeOf80⟩
instance : Und Try.prog 80 (Go.TypeDesc.struct #[{ name := "d", type := 40, offset := 0, embedded := Bool.false, tag := "", pkgPath := "cresset/wal", byteOffset := 0 }, { name := "from", type := 3, offset := 1, embedded := Bool.false, tag := "", pkgPath := "cresset/wal", byteOffset := 8 }, { name := "sectors", type := 3, offset := 2, embedded := Bool.false, tag := "", pkgPath := "cresset/wal", byteOffset := 16 }, { name := "run", type := 2, offset := 3, embedded := Bool.false, tag := "", pkgPath := "cresset/wal", byteOffset := 24 }, { name := "began", type := 2, offset := 4, embedded := Bool.false, tag := "", pkgPath := "cresset/wal", byteOffset := 32 }, { name := "base", type := 2, offset := 5, embedded := Bool.false, tag := "", pkgPath := "cresset/wal", byteOffset := 40 }, { name := "row", type := 24, offset := 6, embedded := Bool.false, tag := "", pkgPath := "cresset/wal", byteOffset := 48 }, { name := "runs", type := 77, offset := 7, embedded := Bool.false, tag := "", pkgPath := "cresset/wal", byteOffset := 72 }, { name := "first", type := 23, offset := 8, embedded := Bool.false, tag := "", pkgPath := "cresset/wal", byteOffset := 96 }, { name := "l", type := 78, offset := 12, embedded := Bool.false, tag := "", pkgPath := "cresset/wal", byteOffset := 128 }, { name := "sure", type := 2, offset := 13, embedded := Bool.false, tag := "", pkgPath := "cresset/wal", byteOffset := 152 }, { name := "flushed", type := 2, offset := 14, embedded := Bool.false, tag := "", pkgPath := "cresset/wal", byteOffset := 160 }, { name := "dirty", type := 4, offset := 15, embedded := Bool.false, tag := "", pkgPath := "cresset/wal", byteOffset := 168 }]) := ⟨Try.underlying80⟩
instance : ZeroOf Try.prog 80 (Go.Value.agg #[Go.Value.pointer Option.none, Go.Value.int Go.IntKind.i64 0, Go.Value.int Go.IntKind.i64 0, Go.Value.int Go.IntKind.i64 0, Go.Value.int Go.IntKind.i64 0, Go.Value.int Go.IntKind.i64 0, Go.Value.slice Option.none 0 0, Go.Value.slice Option.none 0 0, Go.Value.int Go.IntKind.i64 0, Go.Value.int Go.IntKind.i64 0, Go.Value.int Go.IntKind.i64 0, Go.Value.int Go.IntKind.i64 0, Go.Value.slice Option.none 0 0, Go.Value.int Go.IntKind.i64 0, Go.Value.int Go.IntKind.i64 0, Go.Value.bool Bool.false]) := ⟨Try.zeroValue80⟩
instance : Body Try.prog 81 := ⟨Try.call81⟩
instance : NonAgg Try.prog 81 := ⟨Try.isAgg81⟩
instance : SizeOf Try.prog 81 1 := ⟨Try.sizeOf81⟩
instance : Und Try.prog 81 (Go.TypeDesc.slice 61) := ⟨Try.underlying81⟩
instance : ZeroOf Try.prog 81 (Go.Value.slice Option.none 0 0) := ⟨Try.zeroValue81⟩
instance : Body Try.prog 82 := ⟨Try.call82⟩
instance : NonAgg Try.prog 82 := ⟨Try.isAgg82⟩
instance : SizeOf Try.prog 82 1 := ⟨Try.sizeOf82⟩
instance : Und Try.prog 82 (Go.TypeDesc.tuple #[23, 4]) := ⟨Try.underlying82⟩
instance : ZeroOf Try.prog 82 (Go.Value.tuple #[Go.Value.agg #[Go.Value.int Go.IntKind.i64 0, Go.Value.int Go.IntKind.i64 0, Go.Value.int Go.IntKind.i64 0, Go.Value.int Go.IntKind.i64 0], Go.Value.bool Bool.false]) := ⟨Try.zeroValue82⟩
instance : Body Try.prog 83 := ⟨Try.call83⟩
instance : NonAgg Try.prog 83 := ⟨Try.isAgg83⟩
instance : SizeOf Try.prog 83 1 := ⟨Try.sizeOf83⟩
instance : Und Try.prog 83 (Go.TypeDesc.func #[2] #[23, 4] Bool.false) := ⟨Try.underlying83⟩
instance : ZeroOf Try.prog 83 (Go.Value.nilFunc) := ⟨Try.zeroValue83⟩
instance : Body Try.prog 84 := ⟨Try.call84⟩
instance : NonAgg Try.prog 84 := ⟨Try.isAgg84⟩
instance : SizeOf Try.prog 84 1 := ⟨Try.sizeOf84⟩
instance : Und Try.prog 84 (Go.TypeDesc.func #[23] #[25] Bool.false) := ⟨Try.underlying84⟩
instance : ZeroOf Try.prog 84 (Go.Value.nilFunc) := ⟨Try.zeroValue84⟩
instance : Body Try.prog 85 := ⟨Try.call85⟩
instance : NonAgg Try.prog 85 := ⟨Try.isAgg85⟩
instance : SizeOf Try.prog 85 1 := ⟨Try.sizeOf85⟩
instance : Und Try.prog 85 (Go.TypeDesc.func #[] #[23] Bool.false) := ⟨Try.underlying85⟩
instance : ZeroOf Try.prog 85 (Go.Value.nilFunc) := ⟨Try.zeroValue85⟩
instance : Body Try.prog 86 := ⟨Try.call86⟩
instance : NonAgg Try.prog 86 := ⟨Try.isAgg86⟩
instance : SizeOf Try.prog 86 1 := ⟨Try.sizeOf86⟩
instance : Und Try.prog 86 (Go.TypeDesc.func #[] #[2] Bool.false) := ⟨Try.underlying86⟩
instance : ZeroOf Try.prog 86 (Go.Value.nilFunc) := ⟨Try.zeroValue86⟩
instance : Body Try.prog 87 := ⟨Try.call87⟩
instance : NonAgg Try.prog 87 := ⟨Try.isAgg87⟩
instance : SizeOf Try.prog 87 1 := ⟨Try.sizeOf87⟩
instance : Und Try.prog 87 (Go.TypeDesc.func #[] #[3] Bool.false) := ⟨Try.underlying87⟩
instance : ZeroOf Try.prog 87 (Go.Value.nilFunc) := ⟨Try.zeroValue87⟩
instance : Body Try.prog 88 := ⟨Try.call88⟩
instance : NonAgg Try.prog 88 := ⟨Try.isAgg88⟩
instance : SizeOf Try.prog 88 1 := ⟨Try.sizeOf88⟩
instance : Und Try.prog 88 (Go.TypeDesc.func #[61] #[4] Bool.false) := ⟨Try.underlying88⟩
instance : ZeroOf Try.prog 88 (Go.Value.nilFunc) := ⟨Try.zeroValue88⟩
instance : Body Try.prog 89 := ⟨Try.call89⟩
instance : NonAgg Try.prog 89 := ⟨Try.isAgg89⟩
instance : SizeOf Try.prog 89 1 := ⟨Try.sizeOf89⟩
instance : Und Try.prog 89 (Go.TypeDesc.func #[23, 24] #[4] Bool.false) := ⟨Try.underlying89⟩
instance : ZeroOf Try.prog 89 (Go.Value.nilFunc) := ⟨Try.zeroValue89⟩
instance : Body Try.prog 90 := ⟨Try.call90⟩
instance : NonAgg Try.prog 90 := ⟨Try.isAgg90⟩
instance : SizeOf Try.prog 90 1 := ⟨Try.sizeOf90⟩
instance : Und Try.prog 90 (Go.TypeDesc.slice 94) := ⟨Try.underlying90⟩
instance : ZeroOf Try.prog 90 (Go.Value.slice Option.none 0 0) := ⟨Try.zeroValue90⟩
instance : Body Try.prog 91 := ⟨Try.call91⟩
instance : IsAggT Try.prog 91 := ⟨Try.isAgg91⟩
instance : SizeOf Try.prog 91 3 := ⟨Try.sizeOf91⟩
instance : Und Try.prog 91 (Go.TypeDesc.struct #[{ name := "l", type := 41, offset := 0, embedded := Bool.false, tag := "", pkgPath := "cresset/cressetlaw17", byteOffset := 0 }, { name := "base", type := 2, offset := 1, embedded := Bool.false, tag := "", pkgPath := "cresset/cressetlaw17", byteOffset := 24 }, { name := "sure", type := 3, offset := 2, embedded := Bool.false, tag := "", pkgPath := "cresset/cressetlaw17", byteOffset := 32 }]) := ⟨Try.underlying91⟩
instance : ZeroOf Try.prog 91 (Go.Value.agg #[Go.Value.slice Option.none 0 0, Go.Value.int Go.IntKind.i64 0, Go.Value.int Go.IntKind.i64 0]) := ⟨Try.zeroValue91⟩
instance : Body Try.prog 92 := ⟨Try.call92⟩
instance : IsAggT Try.prog 92 := ⟨Try.isAgg92⟩
instance : SizeOf Try.prog 92 3 := ⟨Try.sizeOf92⟩
instance : Und Try.prog 92 (Go.TypeDesc.struct #[{ name := "l", type := 41, offset := 0, embedded := Bool.false, tag := "", pkgPath := "cresset/cressetlaw17", byteOffset := 0 }, { name := "base", type := 2, offset := 1, embedded := Bool.false, tag := "", pkgPath := "cresset/cressetlaw17", byteOffset := 24 }, { name := "sure", type := 3, offset := 2, embedded := Bool.false, tag := "", pkgPath := "cresset/cressetlaw17", byteOffset := 32 }]) := ⟨Try.underlying92⟩
instance : ZeroOf Try.prog 92 (Go.Value.agg #[Go.Value.slice Option.none 0 0, Go.Value.int Go.IntKind.i64 0, Go.Value.int Go.IntKind.i64 0]) := ⟨Try.zeroValue92⟩
instance : Body Try.prog 93 := ⟨Try.call93⟩
instance : IsAggT Try.prog 93 := ⟨Try.isAgg93⟩
instance : SizeOf Try.prog 93 9 := ⟨Try.sizeOf93⟩
instance : Und Try.prog 93 (Go.TypeDesc.struct #[{ name := "Kind", type := 3, offset := 0, embedded := Bool.false, tag := "", pkgPath := "", byteOffset := 0 }, { name := "Data", type := 24, offset := 1, embedded := Bool.false, tag := "", pkgPath := "", byteOffset := 8 }, { name := "N", type := 3, offset := 2, embedded := Bool.false, tag := "", pkgPath := "", byteOffset := 32 }, { name := "Keep", type := 43, offset := 3, embedded := Bool.false, tag := "", pkgPath := "", byteOffset := 40 }, { name := "Mark", type := 23, offset := 4, embedded := Bool.false, tag := "", pkgPath := "", byteOffset := 64 }, { name := "Raw", type := 4, offset := 8, embedded := Bool.false, tag := "", pkgPath := "", byteOffset := 96 }]) := ⟨Try.underlying93⟩
instance : ZeroOf Try.prog 93 (Go.Value.agg #[Go.Value.int Go.IntKind.i64 0, Go.Value.slice Option.none 0 0, Go.Value.int Go.IntKind.i64 0, Go.Value.slice Option.none 0 0, Go.Value.int Go.IntKind.i64 0, Go.Value.int Go.IntKind.i64 0, Go.Value.int Go.IntKind.i64 0, Go.Value.int Go.IntKind.i64 0, Go.Value.bool Bool.false]) := ⟨Try.zeroValue93⟩
instance : Body Try.prog 94 := ⟨Try.call94⟩
instance : IsAggT Try.prog 94 := ⟨Try.isAgg94⟩
instance : SizeOf Try.prog 94 9 := ⟨Try.sizeOf94⟩
instance : Und Try.prog 94 (Go.TypeDesc.struct #[{ name := "Kind", type := 3, offset := 0, embedded := Bool.false, tag := "", pkgPath := "", byteOffset := 0 }, { name := "Data", type := 24, offset := 1, embedded := Bool.false, tag := "", pkgPath := "", byteOffset := 8 }, { name := "N", type := 3, offset := 2, embedded := Bool.false, tag := "", pkgPath := "", byteOffset := 32 }, { name := "Keep", type := 43, offset := 3, embedded := Bool.false, tag := "", pkgPath := "", byteOffset := 40 }, { name := "Mark", type := 23, offset := 4, embedded := Bool.false, tag := "", pkgPath := "", byteOffset := 64 }, { name := "Raw", type := 4, offset := 8, embedded := Bool.false, tag := "", pkgPath := "", byteOffset := 96 }]) := ⟨Try.underlying94⟩
instance : ZeroOf Try.prog 94 (Go.Value.agg #[Go.Value.int Go.IntKind.i64 0, Go.Value.slice Option.none 0 0, Go.Value.int Go.IntKind.i64 0, Go.Value.slice Option.none 0 0, Go.Value.int Go.IntKind.i64 0, Go.Value.int Go.IntKind.i64 0, Go.Value.int Go.IntKind.i64 0, Go.Value.int Go.IntKind.i64 0, Go.Value.bool Bool.false]) := ⟨Try.zeroValue94⟩
instance : Body Try.prog 95 := ⟨Try.call95⟩
instance : NonAgg Try.prog 95 := ⟨Try.isAgg95⟩
instance : SizeOf Try.prog 95 1 := ⟨Try.sizeOf95⟩
instance : Und Try.prog 95 (Go.TypeDesc.func #[90] #[4] Bool.false) := ⟨Try.underlying95⟩
instance : ZeroOf Try.prog 95 (Go.Value.nilFunc) := ⟨Try.zeroValue95⟩
instance : Body Try.prog 96 := ⟨Try.call96⟩
instance : NonAgg Try.prog 96 := ⟨Try.isAgg96⟩
instance : SizeOf Try.prog 96 1 := ⟨Try.sizeOf96⟩
instance : Und Try.prog 96 (Go.TypeDesc.func #[2] #[4] Bool.false) := ⟨Try.underlying96⟩
instance : ZeroOf Try.prog 96 (Go.Value.nilFunc) := ⟨Try.zeroValue96⟩
instance : Body Try.prog 97 := ⟨Try.call97⟩
instance : NonAgg Try.prog 97 := ⟨Try.isAgg97⟩
instance : SizeOf Try.prog 97 1 := ⟨Try.sizeOf97⟩
instance : Und Try.prog 97 (Go.TypeDesc.func #[98, 3] #[24] Bool.false) := ⟨Try.underlying97⟩
instance : ZeroOf Try.prog 97 (Go.Value.nilFunc) := ⟨Try.zeroValue97⟩
instance : Body Try.prog 98 := ⟨Try.call98⟩
instance : NonAgg Try.prog 98 := ⟨Try.isAgg98⟩
instance : SizeOf Try.prog 98 1 := ⟨Try.sizeOf98⟩
instance : Und Try.prog 98 (Go.TypeDesc.int Go.IntKind.u64) := ⟨Try.underlying98⟩
instance : ZeroOf Try.prog 98 (Go.Value.int Go.IntKind.u64 0) := ⟨Try.zeroValue98⟩
instance : Body Try.prog 99 := ⟨Try.call99⟩
instance : IsAggT Try.prog 99 := ⟨Try.isAgg99⟩
instance : SizeOf Try.prog 99 6 := ⟨Try.sizeOf99⟩
instance : Und Try.prog 99 (Go.TypeDesc.array 6 24) := ⟨Try.underlying99⟩
instance : ZeroOf Try.prog 99 (Go.Value.agg #[Go.Value.slice Option.none 0 0, Go.Value.slice Option.none 0 0, Go.Value.slice Option.none 0 0, Go.Value.slice Option.none 0 0, Go.Value.slice Option.none 0 0, Go.Value.slice Option.none 0 0]) := ⟨Try.zeroValue99⟩
instance : Body Try.prog 100 := ⟨Try.call100⟩
instance : NonAgg Try.prog 100 := ⟨Try.isAgg100⟩
instance : SizeOf Try.prog 100 1 := ⟨Try.sizeOf100⟩
instance : Und Try.prog 100 (Go.TypeDesc.func #[41] #[71] Bool.true) := ⟨Try.underlying100⟩
instance : ZeroOf Try.prog 100 (Go.Value.nilFunc) := ⟨Try.zeroValue100⟩
instance : Body Try.prog 101 := ⟨Try.call101⟩
instance : NonAgg Try.prog 101 := ⟨Try.isAgg101⟩
instance : SizeOf Try.prog 101 1 := ⟨Try.sizeOf101⟩
instance : Und Try.prog 101 (Go.TypeDesc.func #[24, 2, 3] #[24] Bool.false) := ⟨Try.underlying101⟩
instance : ZeroOf Try.prog 101 (Go.Value.nilFunc) := ⟨Try.zeroValue101⟩
instance : Body Try.prog 102 := ⟨Try.call102⟩
instance : NonAgg Try.prog 102 := ⟨Try.isAgg102⟩
instance : SizeOf Try.prog 102 1 := ⟨Try.sizeOf102⟩
instance : Und Try.prog 102 (Go.TypeDesc.func #[24] #[71] Bool.false) := ⟨Try.underlying102⟩
instance : ZeroOf Try.prog 102 (Go.Value.nilFunc) := ⟨Try.zeroValue102⟩
instance : Body Try.prog 103 := ⟨Try.call103⟩
instance : NonAgg Try.prog 103 := ⟨Try.isAgg103⟩
instance : SizeOf Try.prog 103 1 := ⟨Try.sizeOf103⟩
instance : Und Try.prog 103 (Go.TypeDesc.func #[24] #[98] Bool.false) := ⟨Try.underlying103⟩
instance : ZeroOf Try.prog 103 (Go.Value.nilFunc) := ⟨Try.zeroValue103⟩
instance : Body Try.prog 104 := ⟨Try.call104⟩
instance : NonAgg Try.prog 104 := ⟨Try.isAgg104⟩
instance : SizeOf Try.prog 104 1 := ⟨Try.sizeOf104⟩
instance : Und Try.prog 104 (Go.TypeDesc.func #[24, 105] #[4] Bool.false) := ⟨Try.underlying104⟩
instance : ZeroOf Try.prog 104 (Go.Value.nilFunc) := ⟨Try.zeroValue104⟩
instance : Body Try.prog 105 := ⟨Try.call105⟩
instance : NonAgg Try.prog 105 := ⟨Try.isAgg105⟩
instance : SizeOf Try.prog 105 1 := ⟨Try.sizeOf105⟩
instance : Und Try.prog 105 (Go.TypeDesc.func #[5] #[4] Bool.false) := ⟨Try.underlying105⟩
instance : ZeroOf Try.prog 105 (Go.Value.nilFunc) := ⟨Try.zeroValue105⟩
instance : Body Try.prog 106 := ⟨Try.call106⟩
instance : NonAgg Try.prog 106 := ⟨Try.isAgg106⟩
instance : SizeOf Try.prog 106 1 := ⟨Try.sizeOf106⟩
instance : Und Try.prog 106 (Go.TypeDesc.func #[24] #[2] Bool.false) := ⟨Try.underlying106⟩
instance : ZeroOf Try.prog 106 (Go.Value.nilFunc) := ⟨Try.zeroValue106⟩
instance : Body Try.prog 107 := ⟨Try.call107⟩
instance : NonAgg Try.prog 107 := ⟨Try.isAgg107⟩
instance : SizeOf Try.prog 107 1 := ⟨Try.sizeOf107⟩
instance : Und Try.prog 107 (Go.TypeDesc.func #[24] #[24, 25] Bool.false) := ⟨Try.underlying107⟩
instance : ZeroOf Try.prog 107 (Go.Value.nilFunc) := ⟨Try.zeroValue107⟩
instance : Body Try.prog 108 := ⟨Try.call108⟩
instance : IsAggT Try.prog 108 := ⟨Try.isAgg108⟩
instance : SizeOf Try.prog 108 512 := ⟨Try.sizeOf108⟩
instance : Und Try.prog 108 (Go.TypeDesc.array 512 5) := ⟨Try.underlying108⟩
instance : ZeroOf Try.prog 108 (Go.Value.agg Go.Proofs.Try.zeroCells108) := ⟨Try.zeroValue108⟩
instance : Body Try.prog 109 := ⟨Try.call109⟩
instance : NonAgg Try.prog 109 := ⟨Try.isAgg109⟩
instance : SizeOf Try.prog 109 1 := ⟨Try.sizeOf109⟩
instance : Und Try.prog 109 (Go.TypeDesc.tuple #[24, 3, 25]) := ⟨Try.underlying109⟩
instance : ZeroOf Try.prog 109 (Go.Value.tuple #[Go.Value.slice Option.none 0 0, Go.Value.int Go.IntKind.i64 0, Go.Value.int Go.IntKind.i64 0]) := ⟨Try.zeroValue109⟩
instance : Body Try.prog 110 := ⟨Try.call110⟩
instance : NonAgg Try.prog 110 := ⟨Try.isAgg110⟩
instance : SizeOf Try.prog 110 1 := ⟨Try.sizeOf110⟩
instance : Und Try.prog 110 (Go.TypeDesc.func #[24] #[24, 3, 25] Bool.false) := ⟨Try.underlying110⟩
instance : ZeroOf Try.prog 110 (Go.Value.nilFunc) := ⟨Try.zeroValue110⟩
instance : Body Try.prog 111 := ⟨Try.call111⟩
instance : NonAgg Try.prog 111 := ⟨Try.isAgg111⟩
instance : SizeOf Try.prog 111 1 := ⟨Try.sizeOf111⟩
instance : Und Try.prog 111 (Go.TypeDesc.func #[3] #[24, 25] Bool.false) := ⟨Try.underlying111⟩
instance : ZeroOf Try.prog 111 (Go.Value.nilFunc) := ⟨Try.zeroValue111⟩
instance : Body Try.prog 112 := ⟨Try.call112⟩
instance : NonAgg Try.prog 112 := ⟨Try.isAgg112⟩
instance : SizeOf Try.prog 112 1 := ⟨Try.sizeOf112⟩
instance : Und Try.prog 112 (Go.TypeDesc.func #[3, 24] #[25] Bool.true) := ⟨Try.underlying112⟩
instance : ZeroOf Try.prog 112 (Go.Value.nilFunc) := ⟨Try.zeroValue112⟩
instance : Body Try.prog 113 := ⟨Try.call113⟩
instance : NonAgg Try.prog 113 := ⟨Try.isAgg113⟩
instance : SizeOf Try.prog 113 1 := ⟨Try.sizeOf113⟩
instance : Und Try.prog 113 (Go.TypeDesc.slice 117) := ⟨Try.underlying113⟩
instance : ZeroOf Try.prog 113 (Go.Value.slice Option.none 0 0) := ⟨Try.zeroValue113⟩
instance : Body Try.prog 114 := ⟨Try.call114⟩
instance : NonAgg Try.prog 114 := ⟨Try.isAgg114⟩
instance : SizeOf Try.prog 114 1 := ⟨Try.sizeOf114⟩
instance : Und Try.prog 114 (Go.TypeDesc.tuple #[113, 25]) := ⟨Try.underlying114⟩
instance : ZeroOf Try.prog 114 (Go.Value.tuple #[Go.Value.slice Option.none 0 0, Go.Value.int Go.IntKind.i64 0]) := ⟨Try.zeroValue114⟩
instance : Body Try.prog 115 := ⟨Try.call115⟩
instance : NonAgg Try.prog 115 := ⟨Try.isAgg115⟩
instance : SizeOf Try.prog 115 1 := ⟨Try.sizeOf115⟩
instance : Und Try.prog 115 (Go.TypeDesc.func #[40, 3, 3] #[113, 25] Bool.false) := ⟨Try.underlying115⟩
instance : ZeroOf Try.prog 115 (Go.Value.nilFunc) := ⟨Try.zeroValue115⟩
instance : Body Try.prog 116 := ⟨Try.call116⟩
instance : IsAggT Try.prog 116 := ⟨Try.isAgg116⟩
instance : SizeOf Try.prog 116 5 := ⟨Try.sizeOf116⟩
instance : Und Try.prog 116 (Go.TypeDesc.struct #[{ name := "ok", type := 4, offset := 0, embedded := Bool.false, tag := "", pkgPath := "cresset/wal", byteOffset := 0 }, { name := "seq", type := 2, offset := 1, embedded := Bool.false, tag := "", pkgPath := "cresset/wal", byteOffset := 8 }, { name := "run", type := 2, offset := 2, embedded := Bool.false, tag := "", pkgPath := "cresset/wal", byteOffset := 16 }, { name := "began", type := 2, offset := 3, embedded := Bool.false, tag := "", pkgPath := "cresset/wal", byteOffset := 24 }, { name := "data", type := 24, offset := 4, embedded := Bool.false, tag := "", pkgPath := "cresset/wal", byteOffset := 32 }]) := ⟨Try.underlying116⟩
instance : ZeroOf Try.prog 116 (Go.Value.agg #[Go.Value.bool Bool.false, Go.Value.int Go.IntKind.i64 0, Go.Value.int Go.IntKind.i64 0, Go.Value.int Go.IntKind.i64 0, Go.Value.slice Option.none 0 0]) := ⟨Try.zeroValue116⟩
instance : Body Try.prog 117 := ⟨Try.call117⟩
instance : IsAggT Try.prog 117 := ⟨Try.isAgg117⟩
instance : SizeOf Try.prog 117 5 := ⟨Try.sizeOf117⟩
instance : Und Try.prog 117 (Go.TypeDesc.struct #[{ name := "ok", type := 4, offset := 0, embedded := Bool.false, tag := "", pkgPath := "cresset/wal", byteOffset := 0 }, { name := "seq", type := 2, offset := 1, embedded := Bool.false, tag := "", pkgPath := "cresset/wal", byteOffset := 8 }, { name := "run", type := 2, offset := 2, embedded := Bool.false, tag := "", pkgPath := "cresset/wal", byteOffset := 16 }, { name := "began", type := 2, offset := 3, embedded := Bool.false, tag := "", pkgPath := "cresset/wal", byteOffset := 24 }, { name := "data", type := 24, offset := 4, embedded := Bool.false, tag := "", pkgPath := "cresset/wal", byteOffset := 32 }]) := ⟨Try.underlying117⟩
instance : ZeroOf Try.prog 117 (Go.Value.agg #[Go.Value.bool Bool.false, Go.Value.int Go.IntKind.i64 0, Go.Value.int Go.IntKind.i64 0, Go.Value.int Go.IntKind.i64 0, Go.Value.slice Option.none 0 0]) := ⟨Try.zeroValue117⟩
instance : Body Try.prog 118 := ⟨Try.call118⟩
instance : NonAgg Try.prog 118 := ⟨Try.isAgg118⟩
instance : SizeOf Try.prog 118 1 := ⟨Try.sizeOf118⟩
instance : Und Try.prog 118 (Go.TypeDesc.func #[153] #[] Bool.false) := ⟨Try.underlying118⟩
instance : ZeroOf Try.prog 118 (Go.Value.nilFunc) := ⟨Try.zeroValue118⟩
instance : Body Try.prog 119 := ⟨Try.call119⟩
instance : NonAgg Try.prog 119 := ⟨Try.isAgg119⟩
instance : SizeOf Try.prog 119 1 := ⟨Try.sizeOf119⟩
instance : Und Try.prog 119 (Go.TypeDesc.func #[153] #[] Bool.false) := ⟨Try.underlying119⟩
instance : ZeroOf Try.prog 119 (Go.Value.nilFunc) := ⟨Try.zeroValue119⟩
instance : Body Try.prog 120 := ⟨Try.call120⟩
instance : NonAgg Try.prog 120 := ⟨Try.isAgg120⟩
instance : SizeOf Try.prog 120 1 := ⟨Try.sizeOf120⟩
instance : Und Try.prog 120 (Go.TypeDesc.func #[113, 2, 2] #[119] Bool.false) := ⟨Try.underlying120⟩
instance : ZeroOf Try.prog 120 (Go.Value.nilFunc) := ⟨Try.zeroValue120⟩
instance : Body Try.prog 121 := ⟨Try.call121⟩
instance : IsAggT Try.prog 121 := ⟨Try.isAgg121⟩
instance : SizeOf Try.prog 121 2 := ⟨Try.sizeOf121⟩
instance : Und Try.prog 121 (Go.TypeDesc.struct #[{ name := "at", type := 2, offset := 0, embedded := Bool.false, tag := "", pkgPath := "cresset/wal", byteOffset := 0 }, { name := "data", type := 24, offset := 1, embedded := Bool.false, tag := "", pkgPath := "cresset/wal", byteOffset := 8 }]) := ⟨Try.underlying121⟩
instance : ZeroOf Try.prog 121 (Go.Value.agg #[Go.Value.int Go.IntKind.i64 0, Go.Value.slice Option.none 0 0]) := ⟨Try.zeroValue121⟩
instance : Body Try.prog 122 := ⟨Try.call122⟩
instance : IsAggT Try.prog 122 := ⟨Try.isAgg122⟩
instance : SizeOf Try.prog 122 2 := ⟨Try.sizeOf122⟩
instance : Und Try.prog 122 (Go.TypeDesc.struct #[{ name := "at", type := 2, offset := 0, embedded := Bool.false, tag := "", pkgPath := "cresset/wal", byteOffset := 0 }, { name := "data", type := 24, offset := 1, embedded := Bool.false, tag := "", pkgPath := "cresset/wal", byteOffset := 8 }]) := ⟨Try.underlying122⟩
instance : ZeroOf Try.prog 122 (Go.Value.agg #[Go.Value.int Go.IntKind.i64 0, Go.Value.slice Option.none 0 0]) := ⟨Try.zeroValue122⟩
instance : Body Try.prog 123 := ⟨Try.call123⟩
instance : NonAgg Try.prog 123 := ⟨Try.isAgg123⟩
instance : SizeOf Try.prog 123 1 := ⟨Try.sizeOf123⟩
instance : Und Try.prog 123 (Go.TypeDesc.func #[78] #[78] Bool.false) := ⟨Try.underlying123⟩
instance : ZeroOf Try.prog 123 (Go.Value.nilFunc) := ⟨Try.zeroValue123⟩
instance : Body Try.prog 124 := ⟨Try.call124⟩
instance : NonAgg Try.prog 124 := ⟨Try.isAgg124⟩
instance : SizeOf Try.prog 124 1 := ⟨Try.sizeOf124⟩
instance : Und Try.prog 124 (Go.TypeDesc.func #[2, 24] #[4] Bool.false) := ⟨Try.underlying124⟩
instance : ZeroOf Try.prog 124 (Go.Value.nilFunc) := ⟨Try.zeroValue124⟩
instance : Body Try.prog 125 := ⟨Try.call125⟩
instance : NonAgg Try.prog 125 := ⟨Try.isAgg125⟩
instance : SizeOf Try.prog 125 1 := ⟨Try.sizeOf125⟩
instance : Und Try.prog 125 (Go.TypeDesc.func #[43] #[43] Bool.false) := ⟨Try.underlying125⟩
instance : ZeroOf Try.prog 125 (Go.Value.nilFunc) := ⟨Try.zeroValue125⟩
instance : Body Try.prog 126 := ⟨Try.call126⟩
instance : NonAgg Try.prog 126 := ⟨Try.isAgg126⟩
instance : SizeOf Try.prog 126 1 := ⟨Try.sizeOf126⟩
instance : Und Try.prog 126 (Go.TypeDesc.func #[3] #[25] Bool.false) := ⟨Try.underlying126⟩
instance : ZeroOf Try.prog 126 (Go.Value.nilFunc) := ⟨Try.zeroValue126⟩
instance : Body Try.prog 127 := ⟨Try.call127⟩
instance : NonAgg Try.prog 127 := ⟨Try.isAgg127⟩
instance : SizeOf Try.prog 127 1 := ⟨Try.sizeOf127⟩
instance : Und Try.prog 127 (Go.TypeDesc.func #[43] #[] Bool.false) := ⟨Try.underlying127⟩
instance : ZeroOf Try.prog 127 (Go.Value.nilFunc) := ⟨Try.zeroValue127⟩
instance : Body Try.prog 128 := ⟨Try.call128⟩
instance : NonAgg Try.prog 128 := ⟨Try.isAgg128⟩
instance : SizeOf Try.prog 128 1 := ⟨Try.sizeOf128⟩
instance : Und Try.prog 128 (Go.TypeDesc.func #[2, 2] #[23] Bool.false) := ⟨Try.underlying128⟩
instance : ZeroOf Try.prog 128 (Go.Value.nilFunc) := ⟨Try.zeroValue128⟩
instance : Body Try.prog 129 := ⟨Try.call129⟩
instance : NonAgg Try.prog 129 := ⟨Try.isAgg129⟩
instance : SizeOf Try.prog 129 1 := ⟨Try.sizeOf129⟩
instance : Und Try.prog 129 (Go.TypeDesc.func #[77] #[77] Bool.false) := ⟨Try.underlying129⟩
instance : ZeroOf Try.prog 129 (Go.Value.nilFunc) := ⟨Try.zeroValue129⟩
instance : Body Try.prog 130 := ⟨Try.call130⟩
instance : NonAgg Try.prog 130 := ⟨Try.isAgg130⟩
instance : SizeOf Try.prog 130 1 := ⟨Try.sizeOf130⟩
instance : Und Try.prog 130 (Go.TypeDesc.pointer 92) := ⟨Try.underlying130⟩
instance : ZeroOf Try.prog 130 (Go.Value.pointer Option.none) := ⟨Try.zeroValue130⟩
instance : Body Try.prog 131 := ⟨Try.call131⟩
instance : NonAgg Try.prog 131 := ⟨Try.isAgg131⟩
instance : SizeOf Try.prog 131 1 := ⟨Try.sizeOf131⟩
instance : Und Try.prog 131 (Go.TypeDesc.int Go.IntKind.u64) := ⟨Try.underlying131⟩
instance : ZeroOf Try.prog 131 (Go.Value.int Go.IntKind.u64 0) := ⟨Try.zeroValue131⟩
instance : Body Try.prog 132 := ⟨Try.call132⟩
instance : NonAgg Try.prog 132 := ⟨Try.isAgg132⟩
instance : SizeOf Try.prog 132 1 := ⟨Try.sizeOf132⟩
instance : Und Try.prog 132 (Go.TypeDesc.func #[24, 105] #[3] Bool.false) := ⟨Try.underlying132⟩
instance : ZeroOf Try.prog 132 (Go.Value.nilFunc) := ⟨Try.zeroValue132⟩
instance : Body Try.prog 133 := ⟨Try.call133⟩
instance : NonAgg Try.prog 133 := ⟨Try.isAgg133⟩
instance : SizeOf Try.prog 133 1 := ⟨Try.sizeOf133⟩
instance : Und Try.prog 133 (Go.TypeDesc.func #[157] #[24, 25] Bool.false) := ⟨Try.underlying133⟩
instance : ZeroOf Try.prog 133 (Go.Value.nilFunc) := ⟨Try.zeroValue133⟩
instance : Body Try.prog 134 := ⟨Try.call134⟩
instance : IsAggT Try.prog 134 := ⟨Try.isAgg134⟩
instance : SizeOf Try.prog 134 8 := ⟨Try.sizeOf134⟩
instance : Und Try.prog 134 (Go.TypeDesc.struct #[{ name := "Master", type := 34, offset := 0, embedded := Bool.true, tag := "", pkgPath := "", byteOffset := 0 }]) := ⟨Try.underlying134⟩
instance : ZeroOf Try.prog 134 (Go.Value.agg #[Go.Value.int Go.IntKind.i64 0, Go.Value.int Go.IntKind.i64 0, Go.Value.int Go.IntKind.i64 0, Go.Value.int Go.IntKind.i64 0, Go.Value.int Go.IntKind.i64 0, Go.Value.int Go.IntKind.i64 0, Go.Value.int Go.IntKind.i64 0, Go.Value.int Go.IntKind.i64 0]) := ⟨Try.zeroValue134⟩
instance : Body Try.prog 135 := ⟨Try.call135⟩
instance : IsAggT Try.prog 135 := ⟨Try.isAgg135⟩
instance : SizeOf Try.prog 135 8 := ⟨Try.sizeOf135⟩
instance : Und Try.prog 135 (Go.TypeDesc.struct #[{ name := "Master", type := 34, offset := 0, embedded := Bool.true, tag := "", pkgPath := "", byteOffset := 0 }]) := ⟨Try.underlying135⟩
instance : ZeroOf Try.prog 135 (Go.Value.agg #[Go.Value.int Go.IntKind.i64 0, Go.Value.int Go.IntKind.i64 0, Go.Value.int Go.IntKind.i64 0, Go.Value.int Go.IntKind.i64 0, Go.Value.int Go.IntKind.i64 0, Go.Value.int Go.IntKind.i64 0, Go.Value.int Go.IntKind.i64 0, Go.Value.int Go.IntKind.i64 0]) := ⟨Try.zeroValue135⟩
instance : Body Try.prog 136 := ⟨Try.call136⟩
instance : NonAgg Try.prog 136 := ⟨Try.isAgg136⟩
instance : SizeOf Try.prog 136 1 := ⟨Try.sizeOf136⟩
instance : Und Try.prog 136 (Go.TypeDesc.func #[24, 2] #[24] Bool.false) := ⟨Try.underlying136⟩
instance : ZeroOf Try.prog 136 (Go.Value.nilFunc) := ⟨Try.zeroValue136⟩
instance : NonAgg Try.prog 137 := ⟨Try.isAgg137⟩
instance : SizeOf Try.prog 137 1 := ⟨Try.sizeOf137⟩
instance : Und Try.prog 137 (Go.TypeDesc.tuple #[2, 3, 25]) := ⟨Try.underlying137⟩
instance : ZeroOf Try.prog 137 (Go.Value.tuple #[Go.Value.int Go.IntKind.i64 0, Go.Value.int Go.IntKind.i64 0, Go.Value.int Go.IntKind.i64 0]) := ⟨Try.zeroValue137⟩
instance : NonAgg Try.prog 138 := ⟨Try.isAgg138⟩
instance : SizeOf Try.prog 138 1 := ⟨Try.sizeOf138⟩
instance : Und Try.prog 138 (Go.TypeDesc.func #[24] #[2, 3, 25] Bool.false) := ⟨Try.underlying138⟩
instance : ZeroOf Try.prog 138 (Go.Value.nilFunc) := ⟨Try.zeroValue138⟩
instance : NonAgg Try.prog 139 := ⟨Try.isAgg139⟩
instance : SizeOf Try.prog 139 1 := ⟨Try.sizeOf139⟩
instance : Und Try.prog 139 (Go.TypeDesc.pointer 141) := ⟨Try.underlying139⟩
instance : ZeroOf Try.prog 139 (Go.Value.pointer Option.none) := ⟨Try.zeroValue139⟩
instance : IsAggT Try.prog 140 := ⟨Try.isAgg140⟩
instance : SizeOf Try.prog 140 3 := ⟨Try.sizeOf140⟩
instance : Und Try.prog 140 (Go.TypeDesc.struct #[{ name := "b", type := 24, offset := 0, embedded := Bool.false, tag := "", pkgPath := "cresset/record", byteOffset := 0 }, { name := "at", type := 3, offset := 1, embedded := Bool.false, tag := "", pkgPath := "cresset/record", byteOffset := 24 }, { name := "e", type := 25, offset := 2, embedded := Bool.false, tag := "", pkgPath := "cresset/record", byteOffset := 32 }]) := ⟨Try.underlying140⟩
instance : ZeroOf Try.prog 140 (Go.Value.agg #[Go.Value.slice Option.none 0 0, Go.Value.int Go.IntKind.i64 0, Go.Value.int Go.IntKind.i64 0]) := ⟨Try.zeroValue140⟩
instance : IsAggT Try.prog 141 := ⟨Try.isAgg141⟩
instance : SizeOf Try.prog 141 3 := ⟨Try.sizeOf141⟩
instance : Und Try.prog 141 (Go.TypeDesc.struct #[{ name := "b", type := 24, offset := 0, embedded := Bool.false, tag := "", pkgPath := "cresset/record", byteOffset := 0 }, { name := "at", type := 3, offset := 1, embedded := Bool.false, tag := "", pkgPath := "cresset/record", byteOffset := 24 }, { name := "e", type := 25, offset := 2, embedded := Bool.false, tag := "", pkgPath := "cresset/record", byteOffset := 32 }]) := ⟨Try.underlying141⟩
instance : ZeroOf Try.prog 141 (Go.Value.agg #[Go.Value.slice Option.none 0 0, Go.Value.int Go.IntKind.i64 0, Go.Value.int Go.IntKind.i64 0]) := ⟨Try.zeroValue141⟩
instance : NonAgg Try.prog 142 := ⟨Try.isAgg142⟩
instance : SizeOf Try.prog 142 1 := ⟨Try.sizeOf142⟩
instance : Und Try.prog 142 (Go.TypeDesc.func #[157] #[25] Bool.false) := ⟨Try.underlying142⟩
instance : ZeroOf Try.prog 142 (Go.Value.nilFunc) := ⟨Try.zeroValue142⟩
instance : NonAgg Try.prog 143 := ⟨Try.isAgg143⟩
instance : SizeOf Try.prog 143 1 := ⟨Try.sizeOf143⟩
instance : Und Try.prog 143 (Go.TypeDesc.func #[3] #[24] Bool.false) := ⟨Try.underlying143⟩
instance : ZeroOf Try.prog 143 (Go.Value.nilFunc) := ⟨Try.zeroValue143⟩
instance : NonAgg Try.prog 144 := ⟨Try.isAgg144⟩
instance : SizeOf Try.prog 144 1 := ⟨Try.sizeOf144⟩
instance : Und Try.prog 144 (Go.TypeDesc.func #[34] #[25] Bool.false) := ⟨Try.underlying144⟩
instance : ZeroOf Try.prog 144 (Go.Value.nilFunc) := ⟨Try.zeroValue144⟩
instance : NonAgg Try.prog 145 := ⟨Try.isAgg145⟩
instance : SizeOf Try.prog 145 1 := ⟨Try.sizeOf145⟩
instance : Und Try.prog 145 (Go.TypeDesc.func #[71] #[24] Bool.false) := ⟨Try.underlying145⟩
instance : ZeroOf Try.prog 145 (Go.Value.nilFunc) := ⟨Try.zeroValue145⟩
instance : NonAgg Try.prog 146 := ⟨Try.isAgg146⟩
instance : SizeOf Try.prog 146 1 := ⟨Try.sizeOf146⟩
instance : Und Try.prog 146 (Go.TypeDesc.pointer 151) := ⟨Try.underlying146⟩
instance : ZeroOf Try.prog 146 (Go.Value.pointer Option.none) := ⟨Try.zeroValue146⟩
instance : NonAgg Try.prog 147 := ⟨Try.isAgg147⟩
instance : SizeOf Try.prog 147 1 := ⟨Try.sizeOf147⟩
instance : Und Try.prog 147 (Go.TypeDesc.pointer 149) := ⟨Try.underlying147⟩
instance : ZeroOf Try.prog 147 (Go.Value.pointer Option.none) := ⟨Try.zeroValue147⟩
instance : IsAggT Try.prog 148 := ⟨Try.isAgg148⟩
instance : SizeOf Try.prog 148 1 := ⟨Try.sizeOf148⟩
instance : Und Try.prog 148 (Go.TypeDesc.struct #[{ name := "B", type := 24, offset := 0, embedded := Bool.false, tag := "", pkgPath := "", byteOffset := 0 }]) := ⟨Try.underlying148⟩
instance : ZeroOf Try.prog 148 (Go.Value.agg #[Go.Value.slice Option.none 0 0]) := ⟨Try.zeroValue148⟩
instance : IsAggT Try.prog 149 := ⟨Try.isAgg149⟩
instance : SizeOf Try.prog 149 1 := ⟨Try.sizeOf149⟩
instance : Und Try.prog 149 (Go.TypeDesc.struct #[{ name := "B", type := 24, offset := 0, embedded := Bool.false, tag := "", pkgPath := "", byteOffset := 0 }]) := ⟨Try.underlying149⟩
instance : ZeroOf Try.prog 149 (Go.Value.agg #[Go.Value.slice Option.none 0 0]) := ⟨Try.zeroValue149⟩
instance : IsAggT Try.prog 150 := ⟨Try.isAgg150⟩
instance : SizeOf Try.prog 150 2 := ⟨Try.sizeOf150⟩
instance : Und Try.prog 150 (Go.TypeDesc.struct #[{ name := "r", type := 147, offset := 0, embedded := Bool.false, tag := "", pkgPath := "cresset/cressetref03", byteOffset := 0 }, { name := "e", type := 25, offset := 1, embedded := Bool.false, tag := "", pkgPath := "cresset/cressetref03", byteOffset := 8 }]) := ⟨Try.underlying150⟩
instance : ZeroOf Try.prog 150 (Go.Value.agg #[Go.Value.pointer Option.none, Go.Value.int Go.IntKind.i64 0]) := ⟨Try.zeroValue150⟩
instance : IsAggT Try.prog 151 := ⟨Try.isAgg151⟩
instance : SizeOf Try.prog 151 2 := ⟨Try.sizeOf151⟩
instance : Und Try.prog 151 (Go.TypeDesc.struct #[{ name := "r", type := 147, offset := 0, embedded := Bool.false, tag := "", pkgPath := "cresset/cressetref03", byteOffset := 0 }, { name := "e", type := 25, offset := 1, embedded := Bool.false, tag := "", pkgPath := "cresset/cressetref03", byteOffset := 8 }]) := ⟨Try.underlying151⟩
instance : ZeroOf Try.prog 151 (Go.Value.agg #[Go.Value.pointer Option.none, Go.Value.int Go.IntKind.i64 0]) := ⟨Try.zeroValue151⟩
instance : NonAgg Try.prog 152 := ⟨Try.isAgg152⟩
instance : SizeOf Try.prog 152 1 := ⟨Try.sizeOf152⟩
instance : Und Try.prog 152 (Go.TypeDesc.func #[2] #[3] Bool.false) := ⟨Try.underlying152⟩
instance : ZeroOf Try.prog 152 (Go.Value.nilFunc) := ⟨Try.zeroValue152⟩
instance : Body Try.prog 153 := ⟨Try.call153⟩
instance : NonAgg Try.prog 153 := ⟨Try.isAgg153⟩
instance : SizeOf Try.prog 153 1 := ⟨Try.sizeOf153⟩
instance : Und Try.prog 153 (Go.TypeDesc.func #[117] #[4] Bool.false) := ⟨Try.underlying153⟩
instance : ZeroOf Try.prog 153 (Go.Value.nilFunc) := ⟨Try.zeroValue153⟩
instance : Body Try.prog 154 := ⟨Try.call154⟩
instance : NonAgg Try.prog 154 := ⟨Try.isAgg154⟩
instance : SizeOf Try.prog 154 1 := ⟨Try.sizeOf154⟩
instance : Und Try.prog 154 (Go.TypeDesc.slice 3) := ⟨Try.underlying154⟩
instance : ZeroOf Try.prog 154 (Go.Value.slice Option.none 0 0) := ⟨Try.zeroValue154⟩
instance : Body Try.prog 155 := ⟨Try.call155⟩
instance : NonAgg Try.prog 155 := ⟨Try.isAgg155⟩
instance : SizeOf Try.prog 155 1 := ⟨Try.sizeOf155⟩
instance : Und Try.prog 155 (Go.TypeDesc.func #[] #[154] Bool.false) := ⟨Try.underlying155⟩
instance : ZeroOf Try.prog 155 (Go.Value.nilFunc) := ⟨Try.zeroValue155⟩
instance : Body Try.prog 156 := ⟨Try.call156⟩
instance : NonAgg Try.prog 156 := ⟨Try.isAgg156⟩
instance : SizeOf Try.prog 156 1 := ⟨Try.sizeOf156⟩
instance : Und Try.prog 156 (Go.TypeDesc.interface #[("cresset/record.check", 75), ("cresset/record.put", 64)]) := ⟨Try.underlying156⟩
instance : ZeroOf Try.prog 156 (Go.Value.nilIface) := ⟨Try.zeroValue156⟩
instance : Body Try.prog 157 := ⟨Try.call157⟩
instance : NonAgg Try.prog 157 := ⟨Try.isAgg157⟩
instance : SizeOf Try.prog 157 1 := ⟨Try.sizeOf157⟩
instance : Und Try.prog 157 (Go.TypeDesc.interface #[("cresset/record.check", 75), ("cresset/record.put", 64)]) := ⟨Try.underlying157⟩
instance : ZeroOf Try.prog 157 (Go.Value.nilIface) := ⟨Try.zeroValue157⟩
instance : NonAgg Try.prog 158 := ⟨Try.isAgg158⟩
instance : SizeOf Try.prog 158 1 := ⟨Try.sizeOf158⟩
instance : Und Try.prog 158 (Go.TypeDesc.func #[139, 138] #[2] Bool.false) := ⟨Try.underlying158⟩
instance : ZeroOf Try.prog 158 (Go.Value.nilFunc) := ⟨Try.zeroValue158⟩
instance : NonAgg Try.prog 159 := ⟨Try.isAgg159⟩
instance : SizeOf Try.prog 159 1 := ⟨Try.sizeOf159⟩
instance : Und Try.prog 159 (Go.TypeDesc.tuple #[24, 4]) := ⟨Try.underlying159⟩
instance : ZeroOf Try.prog 159 (Go.Value.tuple #[Go.Value.slice Option.none 0 0, Go.Value.bool Bool.false]) := ⟨Try.zeroValue159⟩
instance : NonAgg Try.prog 160 := ⟨Try.isAgg160⟩
instance : SizeOf Try.prog 160 1 := ⟨Try.sizeOf160⟩
instance : Und Try.prog 160 (Go.TypeDesc.func #[2] #[24] Bool.false) := ⟨Try.underlying160⟩
instance : ZeroOf Try.prog 160 (Go.Value.nilFunc) := ⟨Try.zeroValue160⟩
instance : NonAgg Try.prog 161 := ⟨Try.isAgg161⟩
instance : SizeOf Try.prog 161 1 := ⟨Try.sizeOf161⟩
instance : Und Try.prog 161 (Go.TypeDesc.func #[] #[2, 25] Bool.false) := ⟨Try.underlying161⟩
instance : ZeroOf Try.prog 161 (Go.Value.nilFunc) := ⟨Try.zeroValue161⟩
instance : NonAgg Try.prog 162 := ⟨Try.isAgg162⟩
instance : SizeOf Try.prog 162 1 := ⟨Try.sizeOf162⟩
instance : Und Try.prog 162 (Go.TypeDesc.func #[167] #[] Bool.false) := ⟨Try.underlying162⟩
instance : ZeroOf Try.prog 162 (Go.Value.nilFunc) := ⟨Try.zeroValue162⟩
instance : NonAgg Try.prog 163 := ⟨Try.isAgg163⟩
instance : SizeOf Try.prog 163 1 := ⟨Try.sizeOf163⟩
instance : Und Try.prog 163 (Go.TypeDesc.func #[167] #[] Bool.false) := ⟨Try.underlying163⟩
instance : ZeroOf Try.prog 163 (Go.Value.nilFunc) := ⟨Try.zeroValue163⟩
instance : NonAgg Try.prog 164 := ⟨Try.isAgg164⟩
instance : SizeOf Try.prog 164 1 := ⟨Try.sizeOf164⟩
instance : Und Try.prog 164 (Go.TypeDesc.func #[42] #[163] Bool.false) := ⟨Try.underlying164⟩
instance : ZeroOf Try.prog 164 (Go.Value.nilFunc) := ⟨Try.zeroValue164⟩
instance : NonAgg Try.prog 165 := ⟨Try.isAgg165⟩
instance : SizeOf Try.prog 165 1 := ⟨Try.sizeOf165⟩
instance : Und Try.prog 165 (Go.TypeDesc.func #[154] #[] Bool.false) := ⟨Try.underlying165⟩
instance : ZeroOf Try.prog 165 (Go.Value.nilFunc) := ⟨Try.zeroValue165⟩
instance : NonAgg Try.prog 166 := ⟨Try.isAgg166⟩
instance : SizeOf Try.prog 166 1 := ⟨Try.sizeOf166⟩
instance : Und Try.prog 166 (Go.TypeDesc.func #[98] #[24] Bool.false) := ⟨Try.underlying166⟩
instance : ZeroOf Try.prog 166 (Go.Value.nilFunc) := ⟨Try.zeroValue166⟩
instance : NonAgg Try.prog 167 := ⟨Try.isAgg167⟩
instance : SizeOf Try.prog 167 1 := ⟨Try.sizeOf167⟩
instance : Und Try.prog 167 (Go.TypeDesc.func #[3] #[4] Bool.false) := ⟨Try.underlying167⟩
instance : ZeroOf Try.prog 167 (Go.Value.nilFunc) := ⟨Try.zeroValue167⟩
instance : NonAgg Try.prog 168 := ⟨Try.isAgg168⟩
instance : SizeOf Try.prog 168 1 := ⟨Try.sizeOf168⟩
instance : Und Try.prog 168 (Go.TypeDesc.func #[154, 3, 3, 3] #[] Bool.false) := ⟨Try.underlying168⟩
instance : ZeroOf Try.prog 168 (Go.Value.nilFunc) := ⟨Try.zeroValue168⟩
instance : NonAgg Try.prog 169 := ⟨Try.isAgg169⟩
instance : SizeOf Try.prog 169 1 := ⟨Try.sizeOf169⟩
instance : Und Try.prog 169 (Go.TypeDesc.func #[131] #[3] Bool.false) := ⟨Try.underlying169⟩
instance : ZeroOf Try.prog 169 (Go.Value.nilFunc) := ⟨Try.zeroValue169⟩
instance : NonAgg Try.prog 170 := ⟨Try.isAgg170⟩
instance : SizeOf Try.prog 170 1 := ⟨Try.sizeOf170⟩
instance : Und Try.prog 170 (Go.TypeDesc.func #[154, 3, 3] #[] Bool.false) := ⟨Try.underlying170⟩
instance : ZeroOf Try.prog 170 (Go.Value.nilFunc) := ⟨Try.zeroValue170⟩
instance : NonAgg Try.prog 171 := ⟨Try.isAgg171⟩
instance : SizeOf Try.prog 171 1 := ⟨Try.sizeOf171⟩
instance : Und Try.prog 171 (Go.TypeDesc.int Go.IntKind.i64) := ⟨Try.underlying171⟩
instance : ZeroOf Try.prog 171 (Go.Value.int Go.IntKind.i64 0) := ⟨Try.zeroValue171⟩
instance : NonAgg Try.prog 172 := ⟨Try.isAgg172⟩
instance : SizeOf Try.prog 172 1 := ⟨Try.sizeOf172⟩
instance : Und Try.prog 172 (Go.TypeDesc.tuple #[3, 171]) := ⟨Try.underlying172⟩
instance : ZeroOf Try.prog 172 (Go.Value.tuple #[Go.Value.int Go.IntKind.i64 0, Go.Value.int Go.IntKind.i64 0]) := ⟨Try.zeroValue172⟩
instance : NonAgg Try.prog 173 := ⟨Try.isAgg173⟩
instance : SizeOf Try.prog 173 1 := ⟨Try.sizeOf173⟩
instance : Und Try.prog 173 (Go.TypeDesc.func #[154, 3, 3] #[3, 171] Bool.false) := ⟨Try.underlying173⟩
instance : ZeroOf Try.prog 173 (Go.Value.nilFunc) := ⟨Try.zeroValue173⟩
instance : NonAgg Try.prog 174 := ⟨Try.isAgg174⟩
instance : SizeOf Try.prog 174 1 := ⟨Try.sizeOf174⟩
instance : Und Try.prog 174 (Go.TypeDesc.func #[154, 3, 3] #[4] Bool.false) := ⟨Try.underlying174⟩
instance : ZeroOf Try.prog 174 (Go.Value.nilFunc) := ⟨Try.zeroValue174⟩
instance : NonAgg Try.prog 175 := ⟨Try.isAgg175⟩
instance : SizeOf Try.prog 175 1 := ⟨Try.sizeOf175⟩
instance : Und Try.prog 175 (Go.TypeDesc.func #[3, 3] #[4] Bool.false) := ⟨Try.underlying175⟩
instance : ZeroOf Try.prog 175 (Go.Value.nilFunc) := ⟨Try.zeroValue175⟩
instance : NonAgg Try.prog 176 := ⟨Try.isAgg176⟩
instance : SizeOf Try.prog 176 1 := ⟨Try.sizeOf176⟩
instance : Und Try.prog 176 (Go.TypeDesc.func #[154, 3, 3, 3] #[3] Bool.false) := ⟨Try.underlying176⟩
instance : ZeroOf Try.prog 176 (Go.Value.nilFunc) := ⟨Try.zeroValue176⟩
instance : NonAgg Try.prog 177 := ⟨Try.isAgg177⟩
instance : SizeOf Try.prog 177 1 := ⟨Try.sizeOf177⟩
instance : Und Try.prog 177 (Go.TypeDesc.tuple #[3, 4]) := ⟨Try.underlying177⟩
instance : ZeroOf Try.prog 177 (Go.Value.tuple #[Go.Value.int Go.IntKind.i64 0, Go.Value.bool Bool.false]) := ⟨Try.zeroValue177⟩
instance : NonAgg Try.prog 178 := ⟨Try.isAgg178⟩
instance : SizeOf Try.prog 178 1 := ⟨Try.sizeOf178⟩
instance : Und Try.prog 178 (Go.TypeDesc.func #[154, 3, 3, 3] #[3, 4] Bool.false) := ⟨Try.underlying178⟩
instance : ZeroOf Try.prog 178 (Go.Value.nilFunc) := ⟨Try.zeroValue178⟩
instance : NonAgg Try.prog 179 := ⟨Try.isAgg179⟩
instance : SizeOf Try.prog 179 1 := ⟨Try.sizeOf179⟩
instance : Und Try.prog 179 (Go.TypeDesc.func #[71] #[3] Bool.false) := ⟨Try.underlying179⟩
instance : ZeroOf Try.prog 179 (Go.Value.nilFunc) := ⟨Try.zeroValue179⟩
instance : NonAgg Try.prog 180 := ⟨Try.isAgg180⟩
instance : SizeOf Try.prog 180 1 := ⟨Try.sizeOf180⟩
instance : Und Try.prog 180 (Go.TypeDesc.func #[98] #[3] Bool.false) := ⟨Try.underlying180⟩
instance : ZeroOf Try.prog 180 (Go.Value.nilFunc) := ⟨Try.zeroValue180⟩
instance : NonAgg Try.prog 181 := ⟨Try.isAgg181⟩
instance : SizeOf Try.prog 181 1 := ⟨Try.sizeOf181⟩
instance : Und Try.prog 181 (Go.TypeDesc.int Go.IntKind.u64) := ⟨Try.underlying181⟩
instance : ZeroOf Try.prog 181 (Go.Value.int Go.IntKind.u64 0) := ⟨Try.zeroValue181⟩
instance : NonAgg Try.prog 182 := ⟨Try.isAgg182⟩
instance : SizeOf Try.prog 182 1 := ⟨Try.sizeOf182⟩
instance : Und Try.prog 182 (Go.TypeDesc.func #[3] #[131] Bool.false) := ⟨Try.underlying182⟩
instance : ZeroOf Try.prog 182 (Go.Value.nilFunc) := ⟨Try.zeroValue182⟩
instance : NonAgg Try.prog 183 := ⟨Try.isAgg183⟩
instance : SizeOf Try.prog 183 1 := ⟨Try.sizeOf183⟩
instance : Und Try.prog 183 (Go.TypeDesc.func #[] #[98] Bool.false) := ⟨Try.underlying183⟩
instance : ZeroOf Try.prog 183 (Go.Value.nilFunc) := ⟨Try.zeroValue183⟩
instance : NonAgg Try.prog 184 := ⟨Try.isAgg184⟩
instance : SizeOf Try.prog 184 1 := ⟨Try.sizeOf184⟩
instance : Und Try.prog 184 (Go.TypeDesc.func #[154, 3, 185] #[3] Bool.false) := ⟨Try.underlying184⟩
instance : ZeroOf Try.prog 184 (Go.Value.nilFunc) := ⟨Try.zeroValue184⟩
instance : NonAgg Try.prog 185 := ⟨Try.isAgg185⟩
instance : SizeOf Try.prog 185 1 := ⟨Try.sizeOf185⟩
instance : Und Try.prog 185 (Go.TypeDesc.pointer 3) := ⟨Try.underlying185⟩
instance : ZeroOf Try.prog 185 (Go.Value.pointer Option.none) := ⟨Try.zeroValue185⟩
instance : NonAgg Try.prog 186 := ⟨Try.isAgg186⟩
instance : SizeOf Try.prog 186 1 := ⟨Try.sizeOf186⟩
instance : Und Try.prog 186 (Go.TypeDesc.func #[154, 3, 3, 3, 185] #[3] Bool.false) := ⟨Try.underlying186⟩
instance : ZeroOf Try.prog 186 (Go.Value.nilFunc) := ⟨Try.zeroValue186⟩
instance : NonAgg Try.prog 187 := ⟨Try.isAgg187⟩
instance : SizeOf Try.prog 187 1 := ⟨Try.sizeOf187⟩
instance : Und Try.prog 187 (Go.TypeDesc.pointer 181) := ⟨Try.underlying187⟩
instance : ZeroOf Try.prog 187 (Go.Value.pointer Option.none) := ⟨Try.zeroValue187⟩
instance : NonAgg Try.prog 188 := ⟨Try.isAgg188⟩
instance : SizeOf Try.prog 188 1 := ⟨Try.sizeOf188⟩
instance : Und Try.prog 188 (Go.TypeDesc.tuple #[3, 3]) := ⟨Try.underlying188⟩
instance : ZeroOf Try.prog 188 (Go.Value.tuple #[Go.Value.int Go.IntKind.i64 0, Go.Value.int Go.IntKind.i64 0]) := ⟨Try.zeroValue188⟩
instance : NonAgg Try.prog 189 := ⟨Try.isAgg189⟩
instance : SizeOf Try.prog 189 1 := ⟨Try.sizeOf189⟩
instance : Und Try.prog 189 (Go.TypeDesc.func #[154, 3, 3, 185] #[3, 3] Bool.false) := ⟨Try.underlying189⟩
instance : ZeroOf Try.prog 189 (Go.Value.nilFunc) := ⟨Try.zeroValue189⟩
instance : NonAgg Try.prog 190 := ⟨Try.isAgg190⟩
instance : SizeOf Try.prog 190 1 := ⟨Try.sizeOf190⟩
instance : Und Try.prog 190 (Go.TypeDesc.func #[] #[9] Bool.false) := ⟨Try.underlying190⟩
instance : ZeroOf Try.prog 190 (Go.Value.nilFunc) := ⟨Try.zeroValue190⟩
instance : IsAggT Try.prog 191 := ⟨Try.isAgg191⟩
instance : SizeOf Try.prog 191 4 := ⟨Try.sizeOf191⟩
instance : Und Try.prog 191 (Go.TypeDesc.struct #[{ name := "_interface", type := 17, offset := 0, embedded := Bool.false, tag := "", pkgPath := "runtime", byteOffset := 0 }, { name := "concrete", type := 17, offset := 1, embedded := Bool.false, tag := "", pkgPath := "runtime", byteOffset := 8 }, { name := "asserted", type := 17, offset := 2, embedded := Bool.false, tag := "", pkgPath := "runtime", byteOffset := 16 }, { name := "missingMethod", type := 9, offset := 3, embedded := Bool.false, tag := "", pkgPath := "runtime", byteOffset := 24 }]) := ⟨Try.underlying191⟩
instance : ZeroOf Try.prog 191 (Go.Value.agg #[Go.Value.pointer Option.none, Go.Value.pointer Option.none, Go.Value.pointer Option.none, Go.Value.string { data := #[] }]) := ⟨Try.zeroValue191⟩
instance : IsAggT Try.prog 192 := ⟨Try.isAgg192⟩
instance : SizeOf Try.prog 192 4 := ⟨Try.sizeOf192⟩
instance : Und Try.prog 192 (Go.TypeDesc.struct #[{ name := "_interface", type := 17, offset := 0, embedded := Bool.false, tag := "", pkgPath := "runtime", byteOffset := 0 }, { name := "concrete", type := 17, offset := 1, embedded := Bool.false, tag := "", pkgPath := "runtime", byteOffset := 8 }, { name := "asserted", type := 17, offset := 2, embedded := Bool.false, tag := "", pkgPath := "runtime", byteOffset := 16 }, { name := "missingMethod", type := 9, offset := 3, embedded := Bool.false, tag := "", pkgPath := "runtime", byteOffset := 24 }]) := ⟨Try.underlying192⟩
instance : ZeroOf Try.prog 192 (Go.Value.agg #[Go.Value.pointer Option.none, Go.Value.pointer Option.none, Go.Value.pointer Option.none, Go.Value.string { data := #[] }]) := ⟨Try.zeroValue192⟩
instance : IsAggT Try.prog 193 := ⟨Try.isAgg193⟩
instance : SizeOf Try.prog 193 0 := ⟨Try.sizeOf193⟩
instance : Und Try.prog 193 (Go.TypeDesc.array 0 16) := ⟨Try.underlying193⟩
instance : ZeroOf Try.prog 193 (Go.Value.agg #[]) := ⟨Try.zeroValue193⟩
instance : IsAggT Try.prog 194 := ⟨Try.isAgg194⟩
instance : SizeOf Try.prog 194 0 := ⟨Try.sizeOf194⟩
instance : Und Try.prog 194 (Go.TypeDesc.struct #[{ name := "_", type := 193, offset := 0, embedded := Bool.false, tag := "", pkgPath := "runtime", byteOffset := 0 }]) := ⟨Try.underlying194⟩
instance : ZeroOf Try.prog 194 (Go.Value.agg #[]) := ⟨Try.zeroValue194⟩
instance : IsAggT Try.prog 195 := ⟨Try.isAgg195⟩
instance : SizeOf Try.prog 195 0 := ⟨Try.sizeOf195⟩
instance : Und Try.prog 195 (Go.TypeDesc.struct #[{ name := "_", type := 193, offset := 0, embedded := Bool.false, tag := "", pkgPath := "runtime", byteOffset := 0 }]) := ⟨Try.underlying195⟩
instance : ZeroOf Try.prog 195 (Go.Value.agg #[]) := ⟨Try.zeroValue195⟩
instance : NonAgg Try.prog 196 := ⟨Try.isAgg196⟩
instance : SizeOf Try.prog 196 1 := ⟨Try.sizeOf196⟩
instance : Und Try.prog 196 (Go.TypeDesc.int Go.IntKind.u8) := ⟨Try.underlying196⟩
instance : ZeroOf Try.prog 196 (Go.Value.int Go.IntKind.u8 0) := ⟨Try.zeroValue196⟩
instance : NonAgg Try.prog 197 := ⟨Try.isAgg197⟩
instance : SizeOf Try.prog 197 1 := ⟨Try.sizeOf197⟩
instance : Und Try.prog 197 (Go.TypeDesc.int Go.IntKind.u8) := ⟨Try.underlying197⟩
instance : ZeroOf Try.prog 197 (Go.Value.int Go.IntKind.u8 0) := ⟨Try.zeroValue197⟩
instance : NonAgg Try.prog 198 := ⟨Try.isAgg198⟩
instance : SizeOf Try.prog 198 1 := ⟨Try.sizeOf198⟩
instance : Und Try.prog 198 (Go.TypeDesc.func #[208, 208] #[4] Bool.false) := ⟨Try.underlying198⟩
instance : ZeroOf Try.prog 198 (Go.Value.nilFunc) := ⟨Try.zeroValue198⟩
instance : NonAgg Try.prog 199 := ⟨Try.isAgg199⟩
instance : SizeOf Try.prog 199 1 := ⟨Try.sizeOf199⟩
instance : Und Try.prog 199 (Go.TypeDesc.pointer 5) := ⟨Try.underlying199⟩
instance : ZeroOf Try.prog 199 (Go.Value.pointer Option.none) := ⟨Try.zeroValue199⟩
instance : NonAgg Try.prog 200 := ⟨Try.isAgg200⟩
instance : SizeOf Try.prog 200 1 := ⟨Try.sizeOf200⟩
instance : Und Try.prog 200 (Go.TypeDesc.int Go.IntKind.i32) := ⟨Try.underlying200⟩
instance : ZeroOf Try.prog 200 (Go.Value.int Go.IntKind.i32 0) := ⟨Try.zeroValue200⟩
instance : NonAgg Try.prog 201 := ⟨Try.isAgg201⟩
instance : SizeOf Try.prog 201 1 := ⟨Try.sizeOf201⟩
instance : Und Try.prog 201 (Go.TypeDesc.int Go.IntKind.i32) := ⟨Try.underlying201⟩
instance : ZeroOf Try.prog 201 (Go.Value.int Go.IntKind.i32 0) := ⟨Try.zeroValue201⟩
instance : IsAggT Try.prog 202 := ⟨Try.isAgg202⟩
instance : SizeOf Try.prog 202 11 := ⟨Try.sizeOf202⟩
instance : Und Try.prog 202 (Go.TypeDesc.struct #[{ name := "Size_", type := 12, offset := 0, embedded := Bool.false, tag := "", pkgPath := "", byteOffset := 0 }, { name := "PtrBytes", type := 12, offset := 1, embedded := Bool.false, tag := "", pkgPath := "", byteOffset := 8 }, { name := "Hash", type := 71, offset := 2, embedded := Bool.false, tag := "", pkgPath := "", byteOffset := 16 }, { name := "TFlag", type := 196, offset := 3, embedded := Bool.false, tag := "", pkgPath := "", byteOffset := 20 }, { name := "Align_", type := 5, offset := 4, embedded := Bool.false, tag := "", pkgPath := "", byteOffset := 21 }, { name := "FieldAlign_", type := 5, offset := 5, embedded := Bool.false, tag := "", pkgPath := "", byteOffset := 22 }, { name := "Kind_", type := 197, offset := 6, embedded := Bool.false, tag := "", pkgPath := "", byteOffset := 23 }, { name := "Equal", type := 198, offset := 7, embedded := Bool.false, tag := "", pkgPath := "", byteOffset := 24 }, { name := "GCData", type := 199, offset := 8, embedded := Bool.false, tag := "", pkgPath := "", byteOffset := 32 }, { name := "Str", type := 200, offset := 9, embedded := Bool.false, tag := "", pkgPath := "", byteOffset := 40 }, { name := "PtrToThis", type := 201, offset := 10, embedded := Bool.false, tag := "", pkgPath := "", byteOffset := 44 }]) := ⟨Try.underlying202⟩
instance : ZeroOf Try.prog 202 (Go.Value.agg #[Go.Value.int Go.IntKind.u64 0, Go.Value.int Go.IntKind.u64 0, Go.Value.int Go.IntKind.u32 0, Go.Value.int Go.IntKind.u8 0, Go.Value.int Go.IntKind.u8 0, Go.Value.int Go.IntKind.u8 0, Go.Value.int Go.IntKind.u8 0, Go.Value.nilFunc, Go.Value.pointer Option.none, Go.Value.int Go.IntKind.i32 0, Go.Value.int Go.IntKind.i32 0]) := ⟨Try.zeroValue202⟩
instance : IsAggT Try.prog 203 := ⟨Try.isAgg203⟩
instance : SizeOf Try.prog 203 11 := ⟨Try.sizeOf203⟩
instance : Und Try.prog 203 (Go.TypeDesc.struct #[{ name := "Size_", type := 12, offset := 0, embedded := Bool.false, tag := "", pkgPath := "", byteOffset := 0 }, { name := "PtrBytes", type := 12, offset := 1, embedded := Bool.false, tag := "", pkgPath := "", byteOffset := 8 }, { name := "Hash", type := 71, offset := 2, embedded := Bool.false, tag := "", pkgPath := "", byteOffset := 16 }, { name := "TFlag", type := 196, offset := 3, embedded := Bool.false, tag := "", pkgPath := "", byteOffset := 20 }, { name := "Align_", type := 5, offset := 4, embedded := Bool.false, tag := "", pkgPath := "", byteOffset := 21 }, { name := "FieldAlign_", type := 5, offset := 5, embedded := Bool.false, tag := "", pkgPath := "", byteOffset := 22 }, { name := "Kind_", type := 197, offset := 6, embedded := Bool.false, tag := "", pkgPath := "", byteOffset := 23 }, { name := "Equal", type := 198, offset := 7, embedded := Bool.false, tag := "", pkgPath := "", byteOffset := 24 }, { name := "GCData", type := 199, offset := 8, embedded := Bool.false, tag := "", pkgPath := "", byteOffset := 32 }, { name := "Str", type := 200, offset := 9, embedded := Bool.false, tag := "", pkgPath := "", byteOffset := 40 }, { name := "PtrToThis", type := 201, offset := 10, embedded := Bool.false, tag := "", pkgPath := "", byteOffset := 44 }]) := ⟨Try.underlying203⟩
instance : ZeroOf Try.prog 203 (Go.Value.agg #[Go.Value.int Go.IntKind.u64 0, Go.Value.int Go.IntKind.u64 0, Go.Value.int Go.IntKind.u32 0, Go.Value.int Go.IntKind.u8 0, Go.Value.int Go.IntKind.u8 0, Go.Value.int Go.IntKind.u8 0, Go.Value.int Go.IntKind.u8 0, Go.Value.nilFunc, Go.Value.pointer Option.none, Go.Value.int Go.IntKind.i32 0, Go.Value.int Go.IntKind.i32 0]) := ⟨Try.zeroValue203⟩
instance : IsAggT Try.prog 204 := ⟨Try.isAgg204⟩
instance : SizeOf Try.prog 204 8 := ⟨Try.sizeOf204⟩
instance : Und Try.prog 204 (Go.TypeDesc.array 8 2) := ⟨Try.underlying204⟩
instance : ZeroOf Try.prog 204 (Go.Value.agg #[Go.Value.int Go.IntKind.i64 0, Go.Value.int Go.IntKind.i64 0, Go.Value.int Go.IntKind.i64 0, Go.Value.int Go.IntKind.i64 0, Go.Value.int Go.IntKind.i64 0, Go.Value.int Go.IntKind.i64 0, Go.Value.int Go.IntKind.i64 0, Go.Value.int Go.IntKind.i64 0]) := ⟨Try.zeroValue204⟩
instance : NonAgg Try.prog 205 := ⟨Try.isAgg205⟩
instance : SizeOf Try.prog 205 1 := ⟨Try.sizeOf205⟩
instance : Und Try.prog 205 (Go.TypeDesc.func #[4] #[25] Bool.false) := ⟨Try.underlying205⟩
instance : ZeroOf Try.prog 205 (Go.Value.nilFunc) := ⟨Try.zeroValue205⟩
instance : NonAgg Try.prog 206 := ⟨Try.isAgg206⟩
instance : SizeOf Try.prog 206 1 := ⟨Try.sizeOf206⟩
instance : Und Try.prog 206 (Go.TypeDesc.func #[2, 2] #[4] Bool.false) := ⟨Try.underlying206⟩
instance : ZeroOf Try.prog 206 (Go.Value.nilFunc) := ⟨Try.zeroValue206⟩
instance : NonAgg Try.prog 207 := ⟨Try.isAgg207⟩
instance : SizeOf Try.prog 207 1 := ⟨Try.sizeOf207⟩
instance : Und Try.prog 207 (Go.TypeDesc.func #[] #[4, 25] Bool.false) := ⟨Try.underlying207⟩
instance : ZeroOf Try.prog 207 (Go.Value.nilFunc) := ⟨Try.zeroValue207⟩
instance : NonAgg Try.prog 208 := ⟨Try.isAgg208⟩
instance : SizeOf Try.prog 208 1 := ⟨Try.sizeOf208⟩
instance : Und Try.prog 208 (Go.TypeDesc.unsafePointer) := ⟨Try.underlying208⟩
instance : ZeroOf Try.prog 208 (Go.Value.pointer Option.none) := ⟨Try.zeroValue208⟩
instance : Fld Try.prog 7 0 0 := Fld.of (z := 0) (t := 2) Try.underlying7 rfl Try.sizeOf2
instance : Fld Try.prog 7 1 1 := Fld.of (z := 0) (t := 3) Try.underlying7 rfl Try.sizeOf3
instance : Fld Try.prog 7 2 2 := Fld.of (z := 0) (t := 4) Try.underlying7 rfl Try.sizeOf4
instance : Fld Try.prog 7 3 3 := Fld.of (z := 0) (t := 6) Try.underlying7 rfl Try.sizeOf6
instance : Places Try.prog 7 [(0, 1), (1, 1), (2, 1), (3, 1)] := ⟨_, Try.underlying7, fun w => by simp [Try.sizeOf2, Try.sizeOf3, Try.sizeOf4, Try.sizeOf6]⟩
instance : Fld Try.prog 8 0 0 := Fld.of (z := 0) (t := 2) Try.underlying8 rfl Try.sizeOf2
instance : Fld Try.prog 8 1 1 := Fld.of (z := 0) (t := 3) Try.underlying8 rfl Try.sizeOf3
instance : Fld Try.prog 8 2 2 := Fld.of (z := 0) (t := 4) Try.underlying8 rfl Try.sizeOf4
instance : Fld Try.prog 8 3 3 := Fld.of (z := 0) (t := 6) Try.underlying8 rfl Try.sizeOf6
instance : Places Try.prog 8 [(0, 1), (1, 1), (2, 1), (3, 1)] := ⟨_, Try.underlying8, fun w => by simp [Try.sizeOf2, Try.sizeOf3, Try.sizeOf4, Try.sizeOf6]⟩
instance : Fld Try.prog 13 0 0 := Fld.of (z := 0) (t := 9) Try.underlying13 rfl Try.sizeOf9
instance : Fld Try.prog 13 1 1 := Fld.of (z := 0) (t := 12) Try.underlying13 rfl Try.sizeOf12
instance : Places Try.prog 13 [(0, 1), (1, 1)] := ⟨_, Try.underlying13, fun w => by simp [Try.sizeOf12, Try.sizeOf9]⟩
instance : Fld Try.prog 14 0 0 := Fld.of (z := 0) (t := 9) Try.underlying14 rfl Try.sizeOf9
instance : Fld Try.prog 14 1 1 := Fld.of (z := 0) (t := 12) Try.underlying14 rfl Try.sizeOf12
instance : Places Try.prog 14 [(0, 1), (1, 1)] := ⟨_, Try.underlying14, fun w => by simp [Try.sizeOf12, Try.sizeOf9]⟩
instance : Fld Try.prog 18 0 0 := Fld.of (z := 0) (t := 17) Try.underlying18 rfl Try.sizeOf17
instance : Places Try.prog 18 [(0, 1)] := ⟨_, Try.underlying18, fun w => by simp [Try.sizeOf17]⟩
instance : Fld Try.prog 19 0 0 := Fld.of (z := 0) (t := 17) Try.underlying19 rfl Try.sizeOf17
instance : Places Try.prog 19 [(0, 1)] := ⟨_, Try.underlying19, fun w => by simp [Try.sizeOf17]⟩
instance : Fld Try.prog 22 0 0 := Fld.of (z := 0) (t := 2) Try.underlying22 rfl Try.sizeOf2
instance : Fld Try.prog 22 1 1 := Fld.of (z := 0) (t := 3) Try.underlying22 rfl Try.sizeOf3
instance : Fld Try.prog 22 2 2 := Fld.of (z := 0) (t := 2) Try.underlying22 rfl Try.sizeOf2
instance : Fld Try.prog 22 3 3 := Fld.of (z := 0) (t := 2) Try.underlying22 rfl Try.sizeOf2
instance : Places Try.prog 22 [(0, 1), (1, 1), (2, 1), (3, 1)] := ⟨_, Try.underlying22, fun w => by simp [Try.sizeOf2, Try.sizeOf3]⟩
instance : Fld Try.prog 23 0 0 := Fld.of (z := 0) (t := 2) Try.underlying23 rfl Try.sizeOf2
instance : Fld Try.prog 23 1 1 := Fld.of (z := 0) (t := 3) Try.underlying23 rfl Try.sizeOf3
instance : Fld Try.prog 23 2 2 := Fld.of (z := 0) (t := 2) Try.underlying23 rfl Try.sizeOf2
instance : Fld Try.prog 23 3 3 := Fld.of (z := 0) (t := 2) Try.underlying23 rfl Try.sizeOf2
instance : Places Try.prog 23 [(0, 1), (1, 1), (2, 1), (3, 1)] := ⟨_, Try.underlying23, fun w => by simp [Try.sizeOf2, Try.sizeOf3]⟩
instance : Fld Try.prog 33 0 0 := Fld.of (z := 0) (t := 2) Try.underlying33 rfl Try.sizeOf2
instance : Fld Try.prog 33 1 1 := Fld.of (z := 0) (t := 3) Try.underlying33 rfl Try.sizeOf3
instance : Fld Try.prog 33 2 2 := Fld.of (z := 0) (t := 3) Try.underlying33 rfl Try.sizeOf3
instance : Fld Try.prog 33 3 3 := Fld.of (z := 0) (t := 2) Try.underlying33 rfl Try.sizeOf2
instance : Fld Try.prog 33 4 4 := Fld.of (z := 3) (t := 23) Try.underlying33 rfl Try.sizeOf23
instance : Places Try.prog 33 [(0, 1), (1, 1), (2, 1), (3, 1), (4, 4)] := ⟨_, Try.underlying33, fun w => by simp [Try.sizeOf2, Try.sizeOf23, Try.sizeOf3]⟩
instance : Fld Try.prog 34 0 0 := Fld.of (z := 0) (t := 2) Try.underlying34 rfl Try.sizeOf2
instance : Fld Try.prog 34 1 1 := Fld.of (z := 0) (t := 3) Try.underlying34 rfl Try.sizeOf3
instance : Fld Try.prog 34 2 2 := Fld.of (z := 0) (t := 3) Try.underlying34 rfl Try.sizeOf3
instance : Fld Try.prog 34 3 3 := Fld.of (z := 0) (t := 2) Try.underlying34 rfl Try.sizeOf2
instance : Fld Try.prog 34 4 4 := Fld.of (z := 3) (t := 23) Try.underlying34 rfl Try.sizeOf23
instance : Places Try.prog 34 [(0, 1), (1, 1), (2, 1), (3, 1), (4, 4)] := ⟨_, Try.underlying34, fun w => by simp [Try.sizeOf2, Try.sizeOf23, Try.sizeOf3]⟩
instance : Fld Try.prog 44 0 0 := Fld.of (z := 0) (t := 41) Try.underlying44 rfl Try.sizeOf41
instance : Fld Try.prog 44 1 1 := Fld.of (z := 0) (t := 42) Try.underlying44 rfl Try.sizeOf42
instance : Fld Try.prog 44 2 2 := Fld.of (z := 0) (t := 4) Try.underlying44 rfl Try.sizeOf4
instance : Fld Try.prog 44 3 3 := Fld.of (z := 0) (t := 2) Try.underlying44 rfl Try.sizeOf2
instance : Fld Try.prog 44 4 4 := Fld.of (z := 0) (t := 3) Try.underlying44 rfl Try.sizeOf3
instance : Fld Try.prog 44 5 5 := Fld.of (z := 0) (t := 43) Try.underlying44 rfl Try.sizeOf43
instance : Places Try.prog 44 [(0, 1), (1, 1), (2, 1), (3, 1), (4, 1), (5, 1)] := ⟨_, Try.underlying44, fun w => by simp [Try.sizeOf2, Try.sizeOf3, Try.sizeOf4, Try.sizeOf41, Try.sizeOf42, Try.sizeOf43]⟩
instance : Fld Try.prog 45 0 0 := Fld.of (z := 0) (t := 41) Try.underlying45 rfl Try.sizeOf41
instance : Fld Try.prog 45 1 1 := Fld.of (z := 0) (t := 42) Try.underlying45 rfl Try.sizeOf42
instance : Fld Try.prog 45 2 2 := Fld.of (z := 0) (t := 4) Try.underlying45 rfl Try.sizeOf4
instance : Fld Try.prog 45 3 3 := Fld.of (z := 0) (t := 2) Try.underlying45 rfl Try.sizeOf2
instance : Fld Try.prog 45 4 4 := Fld.of (z := 0) (t := 3) Try.underlying45 rfl Try.sizeOf3
instance : Fld Try.prog 45 5 5 := Fld.of (z := 0) (t := 43) Try.underlying45 rfl Try.sizeOf43
instance : Places Try.prog 45 [(0, 1), (1, 1), (2, 1), (3, 1), (4, 1), (5, 1)] := ⟨_, Try.underlying45, fun w => by simp [Try.sizeOf2, Try.sizeOf3, Try.sizeOf4, Try.sizeOf41, Try.sizeOf42, Try.sizeOf43]⟩
instance : Fld Try.prog 79 0 0 := Fld.of (z := 0) (t := 40) Try.underlying79 rfl Try.sizeOf40
instance : Fld Try.prog 79 1 1 := Fld.of (z := 0) (t := 3) Try.underlying79 rfl Try.sizeOf3
instance : Fld Try.prog 79 2 2 := Fld.of (z := 0) (t := 3) Try.underlying79 rfl Try.sizeOf3
instance : Fld Try.prog 79 3 3 := Fld.of (z := 0) (t := 2) Try.underlying79 rfl Try.sizeOf2
instance : Fld Try.prog 79 4 4 := Fld.of (z := 0) (t := 2) Try.underlying79 rfl Try.sizeOf2
instance : Fld Try.prog 79 5 5 := Fld.of (z := 0) (t := 2) Try.underlying79 rfl Try.sizeOf2
instance : Fld Try.prog 79 6 6 := Fld.of (z := 0) (t := 24) Try.underlying79 rfl Try.sizeOf24
instance : Fld Try.prog 79 7 7 := Fld.of (z := 0) (t := 77) Try.underlying79 rfl Try.sizeOf77
instance : Fld Try.prog 79 8 8 := Fld.of (z := 3) (t := 23) Try.underlying79 rfl Try.sizeOf23
instance : Fld Try.prog 79 9 12 := Fld.of (z := 0) (t := 78) Try.underlying79 rfl Try.sizeOf78
instance : Fld Try.prog 79 10 13 := Fld.of (z := 0) (t := 2) Try.underlying79 rfl Try.sizeOf2
instance : Fld Try.prog 79 11 14 := Fld.of (z := 0) (t := 2) Try.underlying79 rfl Try.sizeOf2
instance : Fld Try.prog 79 12 15 := Fld.of (z := 0) (t := 4) Try.underlying79 rfl Try.sizeOf4
instance : Places Try.prog 79 [(0, 1), (1, 1), (2, 1), (3, 1), (4, 1), (5, 1), (6, 1), (7, 1), (8, 4), (12, 1), (13, 1), (14, 1), (15, 1)] := ⟨_, Try.underlying79, fun w => by simp [Try.sizeOf2, Try.sizeOf23, Try.sizeOf24, Try.sizeOf3, Try.sizeOf4, Try.sizeOf40, Try.sizeOf77, Try.sizeOf78]⟩
instance : Fld Try.prog 80 0 0 := Fld.of (z := 0) (t := 40) Try.underlying80 rfl Try.sizeOf40
instance : Fld Try.prog 80 1 1 := Fld.of (z := 0) (t := 3) Try.underlying80 rfl Try.sizeOf3
instance : Fld Try.prog 80 2 2 := Fld.of (z := 0) (t := 3) Try.underlying80 rfl Try.sizeOf3
instance : Fld Try.prog 80 3 3 := Fld.of (z := 0) (t := 2) Try.underlying80 rfl Try.sizeOf2
instance : Fld Try.prog 80 4 4 := Fld.of (z := 0) (t := 2) Try.underlying80 rfl Try.sizeOf2
instance : Fld Try.prog 80 5 5 := Fld.of (z := 0) (t := 2) Try.underlying80 rfl Try.sizeOf2
instance : Fld Try.prog 80 6 6 := Fld.of (z := 0) (t := 24) Try.underlying80 rfl Try.sizeOf24
instance : Fld Try.prog 80 7 7 := Fld.of (z := 0) (t := 77) Try.underlying80 rfl Try.sizeOf77
instance : Fld Try.prog 80 8 8 := Fld.of (z := 3) (t := 23) Try.underlying80 rfl Try.sizeOf23
instance : Fld Try.prog 80 9 12 := Fld.of (z := 0) (t := 78) Try.underlying80 rfl Try.sizeOf78
instance : Fld Try.prog 80 10 13 := Fld.of (z := 0) (t := 2) Try.underlying80 rfl Try.sizeOf2
instance : Fld Try.prog 80 11 14 := Fld.of (z := 0) (t := 2) Try.underlying80 rfl Try.sizeOf2
instance : Fld Try.prog 80 12 15 := Fld.of (z := 0) (t := 4) Try.underlying80 rfl Try.sizeOf4
instance : Places Try.prog 80 [(0, 1), (1, 1), (2, 1), (3, 1), (4, 1), (5, 1), (6, 1), (7, 1), (8, 4), (12, 1), (13, 1), (14, 1), (15, 1)] := ⟨_, Try.underlying80, fun w => by simp [Try.sizeOf2, Try.sizeOf23, Try.sizeOf24, Try.sizeOf3, Try.sizeOf4, Try.sizeOf40, Try.sizeOf77, Try.sizeOf78]⟩
instance : Fld Try.prog 91 0 0 := Fld.of (z := 0) (t := 41) Try.underlying91 rfl Try.sizeOf41
instance : Fld Try.prog 91 1 1 := Fld.of (z := 0) (t := 2) Try.underlying91 rfl Try.sizeOf2
instance : Fld Try.prog 91 2 2 := Fld.of (z := 0) (t := 3) Try.underlying91 rfl Try.sizeOf3
instance : Places Try.prog 91 [(0, 1), (1, 1), (2, 1)] := ⟨_, Try.underlying91, fun w => by simp [Try.sizeOf2, Try.sizeOf3, Try.sizeOf41]⟩
instance : Fld Try.prog 92 0 0 := Fld.of (z := 0) (t := 41) Try.underlying92 rfl Try.sizeOf41
instance : Fld Try.prog 92 1 1 := Fld.of (z := 0) (t := 2) Try.underlying92 rfl Try.sizeOf2
instance : Fld Try.prog 92 2 2 := Fld.of (z := 0) (t := 3) Try.underlying92 rfl Try.sizeOf3
instance : Places Try.prog 92 [(0, 1), (1, 1), (2, 1)] := ⟨_, Try.underlying92, fun w => by simp [Try.sizeOf2, Try.sizeOf3, Try.sizeOf41]⟩
instance : Fld Try.prog 93 0 0 := Fld.of (z := 0) (t := 3) Try.underlying93 rfl Try.sizeOf3
instance : Fld Try.prog 93 1 1 := Fld.of (z := 0) (t := 24) Try.underlying93 rfl Try.sizeOf24
instance : Fld Try.prog 93 2 2 := Fld.of (z := 0) (t := 3) Try.underlying93 rfl Try.sizeOf3
instance : Fld Try.prog 93 3 3 := Fld.of (z := 0) (t := 43) Try.underlying93 rfl Try.sizeOf43
instance : Fld Try.prog 93 4 4 := Fld.of (z := 3) (t := 23) Try.underlying93 rfl Try.sizeOf23
instance : Fld Try.prog 93 5 8 := Fld.of (z := 0) (t := 4) Try.underlying93 rfl Try.sizeOf4
instance : Places Try.prog 93 [(0, 1), (1, 1), (2, 1), (3, 1), (4, 4), (8, 1)] := ⟨_, Try.underlying93, fun w => by simp [Try.sizeOf23, Try.sizeOf24, Try.sizeOf3, Try.sizeOf4, Try.sizeOf43]⟩
instance : Fld Try.prog 94 0 0 := Fld.of (z := 0) (t := 3) Try.underlying94 rfl Try.sizeOf3
instance : Fld Try.prog 94 1 1 := Fld.of (z := 0) (t := 24) Try.underlying94 rfl Try.sizeOf24
instance : Fld Try.prog 94 2 2 := Fld.of (z := 0) (t := 3) Try.underlying94 rfl Try.sizeOf3
instance : Fld Try.prog 94 3 3 := Fld.of (z := 0) (t := 43) Try.underlying94 rfl Try.sizeOf43
instance : Fld Try.prog 94 4 4 := Fld.of (z := 3) (t := 23) Try.underlying94 rfl Try.sizeOf23
instance : Fld Try.prog 94 5 8 := Fld.of (z := 0) (t := 4) Try.underlying94 rfl Try.sizeOf4
instance : Places Try.prog 94 [(0, 1), (1, 1), (2, 1), (3, 1), (4, 4), (8, 1)] := ⟨_, Try.underlying94, fun w => by simp [Try.sizeOf23, Try.sizeOf24, Try.sizeOf3, Try.sizeOf4, Try.sizeOf43]⟩
instance : Fld Try.prog 116 0 0 := Fld.of (z := 0) (t := 4) Try.underlying116 rfl Try.sizeOf4
instance : Fld Try.prog 116 1 1 := Fld.of (z := 0) (t := 2) Try.underlying116 rfl Try.sizeOf2
instance : Fld Try.prog 116 2 2 := Fld.of (z := 0) (t := 2) Try.underlying116 rfl Try.sizeOf2
instance : Fld Try.prog 116 3 3 := Fld.of (z := 0) (t := 2) Try.underlying116 rfl Try.sizeOf2
instance : Fld Try.prog 116 4 4 := Fld.of (z := 0) (t := 24) Try.underlying116 rfl Try.sizeOf24
instance : Places Try.prog 116 [(0, 1), (1, 1), (2, 1), (3, 1), (4, 1)] := ⟨_, Try.underlying116, fun w => by simp [Try.sizeOf2, Try.sizeOf24, Try.sizeOf4]⟩
instance : Fld Try.prog 117 0 0 := Fld.of (z := 0) (t := 4) Try.underlying117 rfl Try.sizeOf4
instance : Fld Try.prog 117 1 1 := Fld.of (z := 0) (t := 2) Try.underlying117 rfl Try.sizeOf2
instance : Fld Try.prog 117 2 2 := Fld.of (z := 0) (t := 2) Try.underlying117 rfl Try.sizeOf2
instance : Fld Try.prog 117 3 3 := Fld.of (z := 0) (t := 2) Try.underlying117 rfl Try.sizeOf2
instance : Fld Try.prog 117 4 4 := Fld.of (z := 0) (t := 24) Try.underlying117 rfl Try.sizeOf24
instance : Places Try.prog 117 [(0, 1), (1, 1), (2, 1), (3, 1), (4, 1)] := ⟨_, Try.underlying117, fun w => by simp [Try.sizeOf2, Try.sizeOf24, Try.sizeOf4]⟩
instance : Fld Try.prog 121 0 0 := Fld.of (z := 0) (t := 2) Try.underlying121 rfl Try.sizeOf2
instance : Fld Try.prog 121 1 1 := Fld.of (z := 0) (t := 24) Try.underlying121 rfl Try.sizeOf24
instance : Places Try.prog 121 [(0, 1), (1, 1)] := ⟨_, Try.underlying121, fun w => by simp [Try.sizeOf2, Try.sizeOf24]⟩
instance : Fld Try.prog 122 0 0 := Fld.of (z := 0) (t := 2) Try.underlying122 rfl Try.sizeOf2
instance : Fld Try.prog 122 1 1 := Fld.of (z := 0) (t := 24) Try.underlying122 rfl Try.sizeOf24
instance : Places Try.prog 122 [(0, 1), (1, 1)] := ⟨_, Try.underlying122, fun w => by simp [Try.sizeOf2, Try.sizeOf24]⟩
instance : Fld Try.prog 134 0 0 := Fld.of (z := 7) (t := 34) Try.underlying134 rfl Try.sizeOf34
instance : Places Try.prog 134 [(0, 8)] := ⟨_, Try.underlying134, fun w => by simp [Try.sizeOf34]⟩
instance : Fld Try.prog 135 0 0 := Fld.of (z := 7) (t := 34) Try.underlying135 rfl Try.sizeOf34
instance : Places Try.prog 135 [(0, 8)] := ⟨_, Try.underlying135, fun w => by simp [Try.sizeOf34]⟩
instance : Fld Try.prog 140 0 0 := Fld.of (z := 0) (t := 24) Try.underlying140 rfl Try.sizeOf24
instance : Fld Try.prog 140 1 1 := Fld.of (z := 0) (t := 3) Try.underlying140 rfl Try.sizeOf3
instance : Fld Try.prog 140 2 2 := Fld.of (z := 0) (t := 25) Try.underlying140 rfl Try.sizeOf25
instance : Places Try.prog 140 [(0, 1), (1, 1), (2, 1)] := ⟨_, Try.underlying140, fun w => by simp [Try.sizeOf24, Try.sizeOf25, Try.sizeOf3]⟩
instance : Fld Try.prog 141 0 0 := Fld.of (z := 0) (t := 24) Try.underlying141 rfl Try.sizeOf24
instance : Fld Try.prog 141 1 1 := Fld.of (z := 0) (t := 3) Try.underlying141 rfl Try.sizeOf3
instance : Fld Try.prog 141 2 2 := Fld.of (z := 0) (t := 25) Try.underlying141 rfl Try.sizeOf25
instance : Places Try.prog 141 [(0, 1), (1, 1), (2, 1)] := ⟨_, Try.underlying141, fun w => by simp [Try.sizeOf24, Try.sizeOf25, Try.sizeOf3]⟩
instance : Fld Try.prog 148 0 0 := Fld.of (z := 0) (t := 24) Try.underlying148 rfl Try.sizeOf24
instance : Places Try.prog 148 [(0, 1)] := ⟨_, Try.underlying148, fun w => by simp [Try.sizeOf24]⟩
instance : Fld Try.prog 149 0 0 := Fld.of (z := 0) (t := 24) Try.underlying149 rfl Try.sizeOf24
instance : Places Try.prog 149 [(0, 1)] := ⟨_, Try.underlying149, fun w => by simp [Try.sizeOf24]⟩
instance : Fld Try.prog 150 0 0 := Fld.of (z := 0) (t := 147) Try.underlying150 rfl Try.sizeOf147
instance : Fld Try.prog 150 1 1 := Fld.of (z := 0) (t := 25) Try.underlying150 rfl Try.sizeOf25
instance : Places Try.prog 150 [(0, 1), (1, 1)] := ⟨_, Try.underlying150, fun w => by simp [Try.sizeOf147, Try.sizeOf25]⟩
instance : Fld Try.prog 151 0 0 := Fld.of (z := 0) (t := 147) Try.underlying151 rfl Try.sizeOf147
instance : Fld Try.prog 151 1 1 := Fld.of (z := 0) (t := 25) Try.underlying151 rfl Try.sizeOf25
instance : Places Try.prog 151 [(0, 1), (1, 1)] := ⟨_, Try.underlying151, fun w => by simp [Try.sizeOf147, Try.sizeOf25]⟩
instance : Fld Try.prog 191 0 0 := Fld.of (z := 0) (t := 17) Try.underlying191 rfl Try.sizeOf17
instance : Fld Try.prog 191 1 1 := Fld.of (z := 0) (t := 17) Try.underlying191 rfl Try.sizeOf17
instance : Fld Try.prog 191 2 2 := Fld.of (z := 0) (t := 17) Try.underlying191 rfl Try.sizeOf17
instance : Fld Try.prog 191 3 3 := Fld.of (z := 0) (t := 9) Try.underlying191 rfl Try.sizeOf9
instance : Places Try.prog 191 [(0, 1), (1, 1), (2, 1), (3, 1)] := ⟨_, Try.underlying191, fun w => by simp [Try.sizeOf17, Try.sizeOf9]⟩
instance : Fld Try.prog 192 0 0 := Fld.of (z := 0) (t := 17) Try.underlying192 rfl Try.sizeOf17
instance : Fld Try.prog 192 1 1 := Fld.of (z := 0) (t := 17) Try.underlying192 rfl Try.sizeOf17
instance : Fld Try.prog 192 2 2 := Fld.of (z := 0) (t := 17) Try.underlying192 rfl Try.sizeOf17
instance : Fld Try.prog 192 3 3 := Fld.of (z := 0) (t := 9) Try.underlying192 rfl Try.sizeOf9
instance : Places Try.prog 192 [(0, 1), (1, 1), (2, 1), (3, 1)] := ⟨_, Try.underlying192, fun w => by simp [Try.sizeOf17, Try.sizeOf9]⟩
instance : Places Try.prog 194 [(0, 0)] := ⟨_, Try.underlying194, fun w => by simp [Try.sizeOf193]⟩
instance : Places Try.prog 195 [(0, 0)] := ⟨_, Try.underlying195, fun w => by simp [Try.sizeOf193]⟩
instance : Fld Try.prog 202 0 0 := Fld.of (z := 0) (t := 12) Try.underlying202 rfl Try.sizeOf12
instance : Fld Try.prog 202 1 1 := Fld.of (z := 0) (t := 12) Try.underlying202 rfl Try.sizeOf12
instance : Fld Try.prog 202 2 2 := Fld.of (z := 0) (t := 71) Try.underlying202 rfl Try.sizeOf71
instance : Fld Try.prog 202 3 3 := Fld.of (z := 0) (t := 196) Try.underlying202 rfl Try.sizeOf196
instance : Fld Try.prog 202 4 4 := Fld.of (z := 0) (t := 5) Try.underlying202 rfl Try.sizeOf5
instance : Fld Try.prog 202 5 5 := Fld.of (z := 0) (t := 5) Try.underlying202 rfl Try.sizeOf5
instance : Fld Try.prog 202 6 6 := Fld.of (z := 0) (t := 197) Try.underlying202 rfl Try.sizeOf197
instance : Fld Try.prog 202 7 7 := Fld.of (z := 0) (t := 198) Try.underlying202 rfl Try.sizeOf198
instance : Fld Try.prog 202 8 8 := Fld.of (z := 0) (t := 199) Try.underlying202 rfl Try.sizeOf199
instance : Fld Try.prog 202 9 9 := Fld.of (z := 0) (t := 200) Try.underlying202 rfl Try.sizeOf200
instance : Fld Try.prog 202 10 10 := Fld.of (z := 0) (t := 201) Try.underlying202 rfl Try.sizeOf201
instance : Places Try.prog 202 [(0, 1), (1, 1), (2, 1), (3, 1), (4, 1), (5, 1), (6, 1), (7, 1), (8, 1), (9, 1), (10, 1)] := ⟨_, Try.underlying202, fun w => by simp [Try.sizeOf12, Try.sizeOf196, Try.sizeOf197, Try.sizeOf198, Try.sizeOf199, Try.sizeOf200, Try.sizeOf201, Try.sizeOf5, Try.sizeOf71]⟩
instance : Fld Try.prog 203 0 0 := Fld.of (z := 0) (t := 12) Try.underlying203 rfl Try.sizeOf12
instance : Fld Try.prog 203 1 1 := Fld.of (z := 0) (t := 12) Try.underlying203 rfl Try.sizeOf12
instance : Fld Try.prog 203 2 2 := Fld.of (z := 0) (t := 71) Try.underlying203 rfl Try.sizeOf71
instance : Fld Try.prog 203 3 3 := Fld.of (z := 0) (t := 196) Try.underlying203 rfl Try.sizeOf196
instance : Fld Try.prog 203 4 4 := Fld.of (z := 0) (t := 5) Try.underlying203 rfl Try.sizeOf5
instance : Fld Try.prog 203 5 5 := Fld.of (z := 0) (t := 5) Try.underlying203 rfl Try.sizeOf5
instance : Fld Try.prog 203 6 6 := Fld.of (z := 0) (t := 197) Try.underlying203 rfl Try.sizeOf197
instance : Fld Try.prog 203 7 7 := Fld.of (z := 0) (t := 198) Try.underlying203 rfl Try.sizeOf198
instance : Fld Try.prog 203 8 8 := Fld.of (z := 0) (t := 199) Try.underlying203 rfl Try.sizeOf199
instance : Fld Try.prog 203 9 9 := Fld.of (z := 0) (t := 200) Try.underlying203 rfl Try.sizeOf200
instance : Fld Try.prog 203 10 10 := Fld.of (z := 0) (t := 201) Try.underlying203 rfl Try.sizeOf201
instance : Places Try.prog 203 [(0, 1), (1, 1), (2, 1), (3, 1), (4, 1), (5, 1), (6, 1), (7, 1), (8, 1), (9, 1), (10, 1)] := ⟨_, Try.underlying203, fun w => by simp [Try.sizeOf12, Try.sizeOf196, Try.sizeOf197, Try.sizeOf198, Try.sizeOf199, Try.sizeOf200, Try.sizeOf201, Try.sizeOf5, Try.sizeOf71]⟩
instance : Elem Try.prog 24 5 1 1 (Go.Value.int Go.IntKind.u8 0) := ⟨Try.underlying24, by kernel_rfl⟩
instance : Elem Try.prog 41 24 1 24 (Go.Value.slice Option.none 0 0) := ⟨Try.underlying41, by kernel_rfl⟩
instance : Elem Try.prog 43 4 1 1 (Go.Value.bool Bool.false) := ⟨Try.underlying43, by kernel_rfl⟩
instance : Elem Try.prog 46 40 1 8 (Go.Value.pointer Option.none) := ⟨Try.underlying46, by kernel_rfl⟩
instance : Elem Try.prog 77 2 1 8 (Go.Value.int Go.IntKind.i64 0) := ⟨Try.underlying77, by kernel_rfl⟩
instance : Elem Try.prog 78 122 2 32 (Go.Value.agg #[Go.Value.int Go.IntKind.i64 0, Go.Value.slice Option.none 0 0]) := ⟨Try.underlying78, by kernel_rfl⟩
instance : Elem Try.prog 81 61 1 8 (Go.Value.pointer Option.none) := ⟨Try.underlying81, by kernel_rfl⟩
instance : Elem Try.prog 90 94 9 104 (Go.Value.agg #[Go.Value.int Go.IntKind.i64 0, Go.Value.slice Option.none 0 0, Go.Value.int Go.IntKind.i64 0, Go.Value.slice Option.none 0 0, Go.Value.int Go.IntKind.i64 0, Go.Value.int Go.IntKind.i64 0, Go.Value.int Go.IntKind.i64 0, Go.Value.int Go.IntKind.i64 0, Go.Value.bool Bool.false]) := ⟨Try.underlying90, by kernel_rfl⟩
instance : Elem Try.prog 113 117 5 56 (Go.Value.agg #[Go.Value.bool Bool.false, Go.Value.int Go.IntKind.i64 0, Go.Value.int Go.IntKind.i64 0, Go.Value.int Go.IntKind.i64 0, Go.Value.slice Option.none 0 0]) := ⟨Try.underlying113, by kernel_rfl⟩
instance : Elem Try.prog 154 3 1 8 (Go.Value.int Go.IntKind.i64 0) := ⟨Try.underlying154, by kernel_rfl⟩
end Go.Gsl
