/- The loader's facts on this program's types and functions, as instances. Printed by tools/gen_inst.py. -/
import Derived.Test.YtlofcljlmfnhbaaProg
import Derived.Test.YtlofcljlmfnhbaaGA
namespace Go.Gsl
set_option linter.unusedVariables false
open Go.Proofs
instance : NonAgg Try.prog 0 := ⟨Try.isAgg0⟩
instance : SizeOf Try.prog 0 1 := ⟨Try.sizeOf0⟩
instance : Und Try.prog 0 (Go.TypeDesc.tuple #[]) := ⟨Try.underlying0⟩
instance : ZeroOf Try.prog 0 (Go.Value.tuple #[]) := ⟨Try.zeroValue0⟩
instance : NonAgg Try.prog 1 := ⟨Try.isAgg1⟩
instance : SizeOf Try.prog 1 1 := ⟨Try.sizeOf1⟩
instance : Und Try.prog 1 (Go.TypeDesc.func #[] #[] Bool.false) := ⟨Try.underlying1⟩
instance : ZeroOf Try.prog 1 (Go.Value.nilFunc) := ⟨Try.zeroValue1⟩
instance : Body Try.prog 2 := ⟨Try.call2⟩
instance : NonAgg Try.prog 2 := ⟨Try.isAgg2⟩
instance : SizeOf Try.prog 2 1 := ⟨Try.sizeOf2⟩
instance : Und Try.prog 2 (Go.TypeDesc.int Go.IntKind.i64) := ⟨Try.underlying2⟩
instance : ZeroOf Try.prog 2 (Go.Value.int Go.IntKind.i64 0) := ⟨Try.zeroValue2⟩
instance : Body Try.prog 3 := ⟨Try.call3⟩
instance : NonAgg Try.prog 3 := ⟨Try.isAgg3⟩
instance : SizeOf Try.prog 3 1 := ⟨Try.sizeOf3⟩
instance : Und Try.prog 3 (Go.TypeDesc.int Go.IntKind.i64) := ⟨Try.underlying3⟩
instance : ZeroOf Try.prog 3 (Go.Value.int Go.IntKind.i64 0) := ⟨Try.zeroValue3⟩
instance : Body Try.prog 4 := ⟨Try.call4⟩
instance : NonAgg Try.prog 4 := ⟨Try.isAgg4⟩
instance : SizeOf Try.prog 4 1 := ⟨Try.sizeOf4⟩
instance : Und Try.prog 4 (Go.TypeDesc.bool) := ⟨Try.underlying4⟩
instance : ZeroOf Try.prog 4 (Go.Value.bool Bool.false) := ⟨Try.zeroValue4⟩
instance : Body Try.prog 5 := ⟨Try.call5⟩
instance : NonAgg Try.prog 5 := ⟨Try.isAgg5⟩
instance : SizeOf Try.prog 5 1 := ⟨Try.sizeOf5⟩
instance : Und Try.prog 5 (Go.TypeDesc.int Go.IntKind.u8) := ⟨Try.underlying5⟩
instance : ZeroOf Try.prog 5 (Go.Value.int Go.IntKind.u8 0) := ⟨Try.zeroValue5⟩
instance : Body Try.prog 6 := ⟨Try.call6⟩
instance : NonAgg Try.prog 6 := ⟨Try.isAgg6⟩
instance : SizeOf Try.prog 6 1 := ⟨Try.sizeOf6⟩
instance : Und Try.prog 6 (Go.TypeDesc.int Go.IntKind.u8) := ⟨Try.underlying6⟩
instance : ZeroOf Try.prog 6 (Go.Value.int Go.IntKind.u8 0) := ⟨Try.zeroValue6⟩
instance : Body Try.prog 7 := ⟨Try.call7⟩
instance : IsAggT Try.prog 7 := ⟨Try.isAgg7⟩
instance : SizeOf Try.prog 7 4 := ⟨Try.sizeOf7⟩
instance : Und Try.prog 7 (Go.TypeDesc.struct #[{ name := "x", type := 2, offset := 0, embedded := Bool.false, tag := "", pkgPath := "runtime", byteOffset := 0 }, { name := "y", type := 3, offset := 1, embedded := Bool.false, tag := "", pkgPath := "runtime", byteOffset := 8 }, { name := "signed", type := 4, offset := 2, embedded := Bool.false, tag := "", pkgPath := "runtime", byteOffset := 16 }, { name := "code", type := 6, offset := 3, embedded := Bool.false, tag := "", pkgPath := "runtime", byteOffset := 17 }]) := ⟨Try.underlying7⟩
instance : ZeroOf Try.prog 7 (Go.Value.agg #[Go.Value.int Go.IntKind.i64 0, Go.Value.int Go.IntKind.i64 0, Go.Value.bool Bool.false, Go.Value.int Go.IntKind.u8 0]) := ⟨Try.zeroValue7⟩
instance : Body Try.prog 8 := ⟨Try.call8⟩
instance : IsAggT Try.prog 8 := ⟨Try.isAgg8⟩
instance : SizeOf Try.prog 8 4 := ⟨Try.sizeOf8⟩
instance : Und Try.prog 8 (Go.TypeDesc.struct #[{ name := "x", type := 2, offset := 0, embedded := Bool.false, tag := "", pkgPath := "runtime", byteOffset := 0 }, { name := "y", type := 3, offset := 1, embedded := Bool.false, tag := "", pkgPath := "runtime", byteOffset := 8 }, { name := "signed", type := 4, offset := 2, embedded := Bool.false, tag := "", pkgPath := "runtime", byteOffset := 16 }, { name := "code", type := 6, offset := 3, embedded := Bool.false, tag := "", pkgPath := "runtime", byteOffset := 17 }]) := ⟨Try.underlying8⟩
instance : ZeroOf Try.prog 8 (Go.Value.agg #[Go.Value.int Go.IntKind.i64 0, Go.Value.int Go.IntKind.i64 0, Go.Value.bool Bool.false, Go.Value.int Go.IntKind.u8 0]) := ⟨Try.zeroValue8⟩
instance : Body Try.prog 9 := ⟨Try.call9⟩
instance : NonAgg Try.prog 9 := ⟨Try.isAgg9⟩
instance : SizeOf Try.prog 9 1 := ⟨Try.sizeOf9⟩
instance : Und Try.prog 9 (Go.TypeDesc.string) := ⟨Try.underlying9⟩
instance : ZeroOf Try.prog 9 (Go.Value.string { data := #[] }) := ⟨Try.zeroValue9⟩
instance : Body Try.prog 10 := ⟨Try.call10⟩
instance : NonAgg Try.prog 10 := ⟨Try.isAgg10⟩
instance : SizeOf Try.prog 10 1 := ⟨Try.sizeOf10⟩
instance : Und Try.prog 10 (Go.TypeDesc.string) := ⟨Try.underlying10⟩
instance : ZeroOf Try.prog 10 (Go.Value.string { data := #[] }) := ⟨Try.zeroValue10⟩
instance : Body Try.prog 11 := ⟨Try.call11⟩
instance : NonAgg Try.prog 11 := ⟨Try.isAgg11⟩
instance : SizeOf Try.prog 11 1 := ⟨Try.sizeOf11⟩
instance : Und Try.prog 11 (Go.TypeDesc.string) := ⟨Try.underlying11⟩
instance : ZeroOf Try.prog 11 (Go.Value.string { data := #[] }) := ⟨Try.zeroValue11⟩
instance : Body Try.prog 12 := ⟨Try.call12⟩
instance : NonAgg Try.prog 12 := ⟨Try.isAgg12⟩
instance : SizeOf Try.prog 12 1 := ⟨Try.sizeOf12⟩
instance : Und Try.prog 12 (Go.TypeDesc.int Go.IntKind.u64) := ⟨Try.underlying12⟩
instance : ZeroOf Try.prog 12 (Go.Value.int Go.IntKind.u64 0) := ⟨Try.zeroValue12⟩
instance : Body Try.prog 13 := ⟨Try.call13⟩
instance : IsAggT Try.prog 13 := ⟨Try.isAgg13⟩
instance : SizeOf Try.prog 13 2 := ⟨Try.sizeOf13⟩
instance : Und Try.prog 13 (Go.TypeDesc.struct #[{ name := "msg", type := 9, offset := 0, embedded := Bool.false, tag := "", pkgPath := "runtime", byteOffset := 0 }, { name := "addr", type := 12, offset := 1, embedded := Bool.false, tag := "", pkgPath := "runtime", byteOffset := 16 }]) := ⟨Try.underlying13⟩
instance : ZeroOf Try.prog 13 (Go.Value.agg #[Go.Value.string { data := #[] }, Go.Value.int Go.IntKind.u64 0]) := ⟨Try.zeroValue13⟩
instance : Body Try.prog 14 := ⟨Try.call14⟩
instance : IsAggT Try.prog 14 := ⟨Try.isAgg14⟩
instance : SizeOf Try.prog 14 2 := ⟨Try.sizeOf14⟩
instance : Und Try.prog 14 (Go.TypeDesc.struct #[{ name := "msg", type := 9, offset := 0, embedded := Bool.false, tag := "", pkgPath := "runtime", byteOffset := 0 }, { name := "addr", type := 12, offset := 1, embedded := Bool.false, tag := "", pkgPath := "runtime", byteOffset := 16 }]) := ⟨Try.underlying14⟩
instance : ZeroOf Try.prog 14 (Go.Value.agg #[Go.Value.string { data := #[] }, Go.Value.int Go.IntKind.u64 0]) := ⟨Try.zeroValue14⟩
instance : Body Try.prog 15 := ⟨Try.call15⟩
instance : NonAgg Try.prog 15 := ⟨Try.isAgg15⟩
instance : SizeOf Try.prog 15 1 := ⟨Try.sizeOf15⟩
instance : Und Try.prog 15 (Go.TypeDesc.pointer 153) := ⟨Try.underlying15⟩
instance : ZeroOf Try.prog 15 (Go.Value.pointer Option.none) := ⟨Try.zeroValue15⟩
instance : Body Try.prog 16 := ⟨Try.call16⟩
instance : NonAgg Try.prog 16 := ⟨Try.isAgg16⟩
instance : SizeOf Try.prog 16 1 := ⟨Try.sizeOf16⟩
instance : Und Try.prog 16 (Go.TypeDesc.pointer 156) := ⟨Try.underlying16⟩
instance : ZeroOf Try.prog 16 (Go.Value.pointer Option.none) := ⟨Try.zeroValue16⟩
instance : Body Try.prog 17 := ⟨Try.call17⟩
instance : NonAgg Try.prog 17 := ⟨Try.isAgg17⟩
instance : SizeOf Try.prog 17 1 := ⟨Try.sizeOf17⟩
instance : Und Try.prog 17 (Go.TypeDesc.pointer 164) := ⟨Try.underlying17⟩
instance : ZeroOf Try.prog 17 (Go.Value.pointer Option.none) := ⟨Try.zeroValue17⟩
instance : Body Try.prog 18 := ⟨Try.call18⟩
instance : IsAggT Try.prog 18 := ⟨Try.isAgg18⟩
instance : SizeOf Try.prog 18 1 := ⟨Try.sizeOf18⟩
instance : Und Try.prog 18 (Go.TypeDesc.struct #[{ name := "typ", type := 17, offset := 0, embedded := Bool.false, tag := "", pkgPath := "internal/runtime/maps", byteOffset := 0 }]) := ⟨Try.underlying18⟩
instance : ZeroOf Try.prog 18 (Go.Value.agg #[Go.Value.pointer Option.none]) := ⟨Try.zeroValue18⟩
instance : Body Try.prog 19 := ⟨Try.call19⟩
instance : IsAggT Try.prog 19 := ⟨Try.isAgg19⟩
instance : SizeOf Try.prog 19 1 := ⟨Try.sizeOf19⟩
instance : Und Try.prog 19 (Go.TypeDesc.struct #[{ name := "typ", type := 17, offset := 0, embedded := Bool.false, tag := "", pkgPath := "internal/runtime/maps", byteOffset := 0 }]) := ⟨Try.underlying19⟩
instance : ZeroOf Try.prog 19 (Go.Value.agg #[Go.Value.pointer Option.none]) := ⟨Try.zeroValue19⟩
instance : Body Try.prog 20 := ⟨Try.call20⟩
instance : NonAgg Try.prog 20 := ⟨Try.isAgg20⟩
instance : SizeOf Try.prog 20 1 := ⟨Try.sizeOf20⟩
instance : Und Try.prog 20 (Go.TypeDesc.interface #[]) := ⟨Try.underlying20⟩
instance : ZeroOf Try.prog 20 (Go.Value.nilIface) := ⟨Try.zeroValue20⟩
instance : Body Try.prog 21 := ⟨Try.call21⟩
instance : NonAgg Try.prog 21 := ⟨Try.isAgg21⟩
instance : SizeOf Try.prog 21 1 := ⟨Try.sizeOf21⟩
instance : Und Try.prog 21 (Go.TypeDesc.int Go.IntKind.i32) := ⟨Try.underlying21⟩
instance : ZeroOf Try.prog 21 (Go.Value.int Go.IntKind.i32 0) := ⟨Try.zeroValue21⟩
instance : Body Try.prog 22 := ⟨Try.call22⟩
instance : IsAggT Try.prog 22 := ⟨Try.isAgg22⟩
instance : SizeOf Try.prog 22 2 := ⟨Try.sizeOf22⟩
instance : Und Try.prog 22 (Go.TypeDesc.struct #[{ name := "From", type := 3, offset := 0, embedded := Bool.false, tag := "", pkgPath := "", byteOffset := 0 }, { name := "Chunks", type := 3, offset := 1, embedded := Bool.false, tag := "", pkgPath := "", byteOffset := 8 }]) := ⟨Try.underlying22⟩
instance : ZeroOf Try.prog 22 (Go.Value.agg #[Go.Value.int Go.IntKind.i64 0, Go.Value.int Go.IntKind.i64 0]) := ⟨Try.zeroValue22⟩
instance : Body Try.prog 23 := ⟨Try.call23⟩
instance : IsAggT Try.prog 23 := ⟨Try.isAgg23⟩
instance : SizeOf Try.prog 23 2 := ⟨Try.sizeOf23⟩
instance : Und Try.prog 23 (Go.TypeDesc.struct #[{ name := "From", type := 3, offset := 0, embedded := Bool.false, tag := "", pkgPath := "", byteOffset := 0 }, { name := "Chunks", type := 3, offset := 1, embedded := Bool.false, tag := "", pkgPath := "", byteOffset := 8 }]) := ⟨Try.underlying23⟩
instance : ZeroOf Try.prog 23 (Go.Value.agg #[Go.Value.int Go.IntKind.i64 0, Go.Value.int Go.IntKind.i64 0]) := ⟨Try.zeroValue23⟩
instance : Body Try.prog 24 := ⟨Try.call24⟩
instance : NonAgg Try.prog 24 := ⟨Try.isAgg24⟩
instance : SizeOf Try.prog 24 1 := ⟨Try.sizeOf24⟩
instance : Und Try.prog 24 (Go.TypeDesc.slice 50) := ⟨Try.underlying24⟩
instance : ZeroOf Try.prog 24 (Go.Value.slice Option.none 0 0) := ⟨Try.zeroValue24⟩
instance : Body Try.prog 25 := ⟨Try.call25⟩
instance : NonAgg Try.prog 25 := ⟨Try.isAgg25⟩
instance : SizeOf Try.prog 25 1 := ⟨Try.sizeOf25⟩
instance : Und Try.prog 25 (Go.TypeDesc.func #[] #[4] Bool.false) := ⟨Try.underlying25⟩
instance : ZeroOf Try.prog 25 (Go.Value.nilFunc) := ⟨Try.zeroValue25⟩
instance : Body Try.prog 26 := ⟨Try.call26⟩
instance : NonAgg Try.prog 26 := ⟨Try.isAgg26⟩
instance : SizeOf Try.prog 26 1 := ⟨Try.sizeOf26⟩
instance : Und Try.prog 26 (Go.TypeDesc.pointer 85) := ⟨Try.underlying26⟩
instance : ZeroOf Try.prog 26 (Go.Value.pointer Option.none) := ⟨Try.zeroValue26⟩
instance : Body Try.prog 27 := ⟨Try.call27⟩
instance : IsAggT Try.prog 27 := ⟨Try.isAgg27⟩
instance : SizeOf Try.prog 27 3 := ⟨Try.sizeOf27⟩
instance : Und Try.prog 27 (Go.TypeDesc.struct #[{ name := "Number", type := 3, offset := 0, embedded := Bool.false, tag := "", pkgPath := "", byteOffset := 0 }, { name := "List", type := 24, offset := 1, embedded := Bool.false, tag := "", pkgPath := "", byteOffset := 8 }, { name := "Last", type := 4, offset := 2, embedded := Bool.false, tag := "", pkgPath := "", byteOffset := 32 }]) := ⟨Try.underlying27⟩
instance : ZeroOf Try.prog 27 (Go.Value.agg #[Go.Value.int Go.IntKind.i64 0, Go.Value.slice Option.none 0 0, Go.Value.bool Bool.false]) := ⟨Try.zeroValue27⟩
instance : Body Try.prog 28 := ⟨Try.call28⟩
instance : IsAggT Try.prog 28 := ⟨Try.isAgg28⟩
instance : SizeOf Try.prog 28 3 := ⟨Try.sizeOf28⟩
instance : Und Try.prog 28 (Go.TypeDesc.struct #[{ name := "Number", type := 3, offset := 0, embedded := Bool.false, tag := "", pkgPath := "", byteOffset := 0 }, { name := "List", type := 24, offset := 1, embedded := Bool.false, tag := "", pkgPath := "", byteOffset := 8 }, { name := "Last", type := 4, offset := 2, embedded := Bool.false, tag := "", pkgPath := "", byteOffset := 32 }]) := ⟨Try.underlying28⟩
instance : ZeroOf Try.prog 28 (Go.Value.agg #[Go.Value.int Go.IntKind.i64 0, Go.Value.slice Option.none 0 0, Go.Value.bool Bool.false]) := ⟨Try.zeroValue28⟩
instance : Body Try.prog 29 := ⟨Try.call29⟩
instance : NonAgg Try.prog 29 := ⟨Try.isAgg29⟩
instance : SizeOf Try.prog 29 1 := ⟨Try.sizeOf29⟩
instance : Und Try.prog 29 (Go.TypeDesc.int Go.IntKind.i64) := ⟨Try.underlying29⟩
instance : ZeroOf Try.prog 29 (Go.Value.int Go.IntKind.i64 0) := ⟨Try.zeroValue29⟩
instance : Body Try.prog 30 := ⟨Try.call30⟩
instance : NonAgg Try.prog 30 := ⟨Try.isAgg30⟩
instance : SizeOf Try.prog 30 1 := ⟨Try.sizeOf30⟩
instance : Und Try.prog 30 (Go.TypeDesc.tuple #[28, 29]) := ⟨Try.underlying30⟩
instance : ZeroOf Try.prog 30 (Go.Value.tuple #[Go.Value.agg #[Go.Value.int Go.IntKind.i64 0, Go.Value.slice Option.none 0 0, Go.Value.bool Bool.false], Go.Value.int Go.IntKind.i64 0]) := ⟨Try.zeroValue30⟩
instance : Body Try.prog 31 := ⟨Try.call31⟩
instance : NonAgg Try.prog 31 := ⟨Try.isAgg31⟩
instance : SizeOf Try.prog 31 1 := ⟨Try.sizeOf31⟩
instance : Und Try.prog 31 (Go.TypeDesc.func #[26, 23, 3] #[28, 29] Bool.false) := ⟨Try.underlying31⟩
instance : ZeroOf Try.prog 31 (Go.Value.nilFunc) := ⟨Try.zeroValue31⟩
instance : Body Try.prog 32 := ⟨Try.call32⟩
instance : NonAgg Try.prog 32 := ⟨Try.isAgg32⟩
instance : SizeOf Try.prog 32 1 := ⟨Try.sizeOf32⟩
instance : Und Try.prog 32 (Go.TypeDesc.tuple #[24, 29]) := ⟨Try.underlying32⟩
instance : ZeroOf Try.prog 32 (Go.Value.tuple #[Go.Value.slice Option.none 0 0, Go.Value.int Go.IntKind.i64 0]) := ⟨Try.zeroValue32⟩
instance : Body Try.prog 33 := ⟨Try.call33⟩
instance : NonAgg Try.prog 33 := ⟨Try.isAgg33⟩
instance : SizeOf Try.prog 33 1 := ⟨Try.sizeOf33⟩
instance : Und Try.prog 33 (Go.TypeDesc.func #[26, 23, 3] #[24, 29] Bool.false) := ⟨Try.underlying33⟩
instance : ZeroOf Try.prog 33 (Go.Value.nilFunc) := ⟨Try.zeroValue33⟩
instance : Body Try.prog 34 := ⟨Try.call34⟩
instance : NonAgg Try.prog 34 := ⟨Try.isAgg34⟩
instance : SizeOf Try.prog 34 1 := ⟨Try.sizeOf34⟩
instance : Und Try.prog 34 (Go.TypeDesc.pointer 39) := ⟨Try.underlying34⟩
instance : ZeroOf Try.prog 34 (Go.Value.pointer Option.none) := ⟨Try.zeroValue34⟩
instance : Body Try.prog 35 := ⟨Try.call35⟩
instance : NonAgg Try.prog 35 := ⟨Try.isAgg35⟩
instance : SizeOf Try.prog 35 1 := ⟨Try.sizeOf35⟩
instance : Und Try.prog 35 (Go.TypeDesc.tuple #[34, 29]) := ⟨Try.underlying35⟩
instance : ZeroOf Try.prog 35 (Go.Value.tuple #[Go.Value.pointer Option.none, Go.Value.int Go.IntKind.i64 0]) := ⟨Try.zeroValue35⟩
instance : Body Try.prog 36 := ⟨Try.call36⟩
instance : NonAgg Try.prog 36 := ⟨Try.isAgg36⟩
instance : SizeOf Try.prog 36 1 := ⟨Try.sizeOf36⟩
instance : Und Try.prog 36 (Go.TypeDesc.func #[26, 23] #[34, 29] Bool.false) := ⟨Try.underlying36⟩
instance : ZeroOf Try.prog 36 (Go.Value.nilFunc) := ⟨Try.zeroValue36⟩
instance : Body Try.prog 37 := ⟨Try.call37⟩
instance : NonAgg Try.prog 37 := ⟨Try.isAgg37⟩
instance : SizeOf Try.prog 37 1 := ⟨Try.sizeOf37⟩
instance : Und Try.prog 37 (Go.TypeDesc.func #[26, 23, 28] #[29] Bool.false) := ⟨Try.underlying37⟩
instance : ZeroOf Try.prog 37 (Go.Value.nilFunc) := ⟨Try.zeroValue37⟩
instance : Body Try.prog 38 := ⟨Try.call38⟩
instance : IsAggT Try.prog 38 := ⟨Try.isAgg38⟩
instance : SizeOf Try.prog 38 6 := ⟨Try.sizeOf38⟩
instance : Und Try.prog 38 (Go.TypeDesc.struct #[{ name := "d", type := 26, offset := 0, embedded := Bool.false, tag := "", pkgPath := "cresset/ckpt", byteOffset := 0 }, { name := "a", type := 23, offset := 1, embedded := Bool.false, tag := "", pkgPath := "cresset/ckpt", byteOffset := 8 }, { name := "l", type := 24, offset := 3, embedded := Bool.false, tag := "", pkgPath := "cresset/ckpt", byteOffset := 24 }, { name := "n", type := 3, offset := 4, embedded := Bool.false, tag := "", pkgPath := "cresset/ckpt", byteOffset := 48 }, { name := "done", type := 4, offset := 5, embedded := Bool.false, tag := "", pkgPath := "cresset/ckpt", byteOffset := 56 }]) := ⟨Try.underlying38⟩
instance : ZeroOf Try.prog 38 (Go.Value.agg #[Go.Value.pointer Option.none, Go.Value.int Go.IntKind.i64 0, Go.Value.int Go.IntKind.i64 0, Go.Value.slice Option.none 0 0, Go.Value.int Go.IntKind.i64 0, Go.Value.bool Bool.false]) := ⟨Try.zeroValue38⟩
instance : Body Try.prog 39 := ⟨Try.call39⟩
instance : IsAggT Try.prog 39 := ⟨Try.isAgg39⟩
instance : SizeOf Try.prog 39 6 := ⟨Try.sizeOf39⟩
instance : Und Try.prog 39 (Go.TypeDesc.struct #[{ name := "d", type := 26, offset := 0, embedded := Bool.false, tag := "", pkgPath := "cresset/ckpt", byteOffset := 0 }, { name := "a", type := 23, offset := 1, embedded := Bool.false, tag := "", pkgPath := "cresset/ckpt", byteOffset := 8 }, { name := "l", type := 24, offset := 3, embedded := Bool.false, tag := "", pkgPath := "cresset/ckpt", byteOffset := 24 }, { name := "n", type := 3, offset := 4, embedded := Bool.false, tag := "", pkgPath := "cresset/ckpt", byteOffset := 48 }, { name := "done", type := 4, offset := 5, embedded := Bool.false, tag := "", pkgPath := "cresset/ckpt", byteOffset := 56 }]) := ⟨Try.underlying39⟩
instance : ZeroOf Try.prog 39 (Go.Value.agg #[Go.Value.pointer Option.none, Go.Value.int Go.IntKind.i64 0, Go.Value.int Go.IntKind.i64 0, Go.Value.slice Option.none 0 0, Go.Value.int Go.IntKind.i64 0, Go.Value.bool Bool.false]) := ⟨Try.zeroValue39⟩
instance : Body Try.prog 40 := ⟨Try.call40⟩
instance : NonAgg Try.prog 40 := ⟨Try.isAgg40⟩
instance : SizeOf Try.prog 40 1 := ⟨Try.sizeOf40⟩
instance : Und Try.prog 40 (Go.TypeDesc.slice 34) := ⟨Try.underlying40⟩
instance : ZeroOf Try.prog 40 (Go.Value.slice Option.none 0 0) := ⟨Try.zeroValue40⟩
instance : Body Try.prog 41 := ⟨Try.call41⟩
instance : NonAgg Try.prog 41 := ⟨Try.isAgg41⟩
instance : SizeOf Try.prog 41 1 := ⟨Try.sizeOf41⟩
instance : Und Try.prog 41 (Go.TypeDesc.tuple #[3, 29]) := ⟨Try.underlying41⟩
instance : ZeroOf Try.prog 41 (Go.Value.tuple #[Go.Value.int Go.IntKind.i64 0, Go.Value.int Go.IntKind.i64 0]) := ⟨Try.zeroValue41⟩
instance : Body Try.prog 42 := ⟨Try.call42⟩
instance : NonAgg Try.prog 42 := ⟨Try.isAgg42⟩
instance : SizeOf Try.prog 42 1 := ⟨Try.sizeOf42⟩
instance : Und Try.prog 42 (Go.TypeDesc.func #[] #[3, 29] Bool.false) := ⟨Try.underlying42⟩
instance : ZeroOf Try.prog 42 (Go.Value.nilFunc) := ⟨Try.zeroValue42⟩
instance : Body Try.prog 43 := ⟨Try.call43⟩
instance : NonAgg Try.prog 43 := ⟨Try.isAgg43⟩
instance : SizeOf Try.prog 43 1 := ⟨Try.sizeOf43⟩
instance : Und Try.prog 43 (Go.TypeDesc.func #[24] #[29] Bool.true) := ⟨Try.underlying43⟩
instance : ZeroOf Try.prog 43 (Go.Value.nilFunc) := ⟨Try.zeroValue43⟩
instance : Body Try.prog 44 := ⟨Try.call44⟩
instance : NonAgg Try.prog 44 := ⟨Try.isAgg44⟩
instance : SizeOf Try.prog 44 1 := ⟨Try.sizeOf44⟩
instance : Und Try.prog 44 (Go.TypeDesc.func #[] #[3] Bool.false) := ⟨Try.underlying44⟩
instance : ZeroOf Try.prog 44 (Go.Value.nilFunc) := ⟨Try.zeroValue44⟩
instance : Body Try.prog 45 := ⟨Try.call45⟩
instance : NonAgg Try.prog 45 := ⟨Try.isAgg45⟩
instance : SizeOf Try.prog 45 1 := ⟨Try.sizeOf45⟩
instance : Und Try.prog 45 (Go.TypeDesc.tuple #[26, 29]) := ⟨Try.underlying45⟩
instance : ZeroOf Try.prog 45 (Go.Value.tuple #[Go.Value.pointer Option.none, Go.Value.int Go.IntKind.i64 0]) := ⟨Try.zeroValue45⟩
instance : Body Try.prog 46 := ⟨Try.call46⟩
instance : NonAgg Try.prog 46 := ⟨Try.isAgg46⟩
instance : SizeOf Try.prog 46 1 := ⟨Try.sizeOf46⟩
instance : Und Try.prog 46 (Go.TypeDesc.func #[3] #[26, 29] Bool.false) := ⟨Try.underlying46⟩
instance : ZeroOf Try.prog 46 (Go.Value.nilFunc) := ⟨Try.zeroValue46⟩
instance : Body Try.prog 47 := ⟨Try.call47⟩
instance : NonAgg Try.prog 47 := ⟨Try.isAgg47⟩
instance : SizeOf Try.prog 47 1 := ⟨Try.sizeOf47⟩
instance : Und Try.prog 47 (Go.TypeDesc.func #[24, 3] #[24] Bool.false) := ⟨Try.underlying47⟩
instance : ZeroOf Try.prog 47 (Go.Value.nilFunc) := ⟨Try.zeroValue47⟩
instance : Body Try.prog 48 := ⟨Try.call48⟩
instance : NonAgg Try.prog 48 := ⟨Try.isAgg48⟩
instance : SizeOf Try.prog 48 1 := ⟨Try.sizeOf48⟩
instance : Und Try.prog 48 (Go.TypeDesc.func #[24] #[24] Bool.false) := ⟨Try.underlying48⟩
instance : ZeroOf Try.prog 48 (Go.Value.nilFunc) := ⟨Try.zeroValue48⟩
instance : Body Try.prog 49 := ⟨Try.call49⟩
instance : IsAggT Try.prog 49 := ⟨Try.isAgg49⟩
instance : SizeOf Try.prog 49 3 := ⟨Try.sizeOf49⟩
instance : Und Try.prog 49 (Go.TypeDesc.struct #[{ name := "Key", type := 9, offset := 0, embedded := Bool.false, tag := "", pkgPath := "", byteOffset := 0 }, { name := "Value", type := 9, offset := 1, embedded := Bool.false, tag := "", pkgPath := "", byteOffset := 16 }, { name := "TS", type := 2, offset := 2, embedded := Bool.false, tag := "", pkgPath := "", byteOffset := 32 }]) := ⟨Try.underlying49⟩
instance : ZeroOf Try.prog 49 (Go.Value.agg #[Go.Value.string { data := #[] }, Go.Value.string { data := #[] }, Go.Value.int Go.IntKind.i64 0]) := ⟨Try.zeroValue49⟩
instance : Body Try.prog 50 := ⟨Try.call50⟩
instance : IsAggT Try.prog 50 := ⟨Try.isAgg50⟩
instance : SizeOf Try.prog 50 3 := ⟨Try.sizeOf50⟩
instance : Und Try.prog 50 (Go.TypeDesc.struct #[{ name := "Key", type := 9, offset := 0, embedded := Bool.false, tag := "", pkgPath := "", byteOffset := 0 }, { name := "Value", type := 9, offset := 1, embedded := Bool.false, tag := "", pkgPath := "", byteOffset := 16 }, { name := "TS", type := 2, offset := 2, embedded := Bool.false, tag := "", pkgPath := "", byteOffset := 32 }]) := ⟨Try.underlying50⟩
instance : ZeroOf Try.prog 50 (Go.Value.agg #[Go.Value.string { data := #[] }, Go.Value.string { data := #[] }, Go.Value.int Go.IntKind.i64 0]) := ⟨Try.zeroValue50⟩
instance : Body Try.prog 51 := ⟨Try.call51⟩
instance : NonAgg Try.prog 51 := ⟨Try.isAgg51⟩
instance : SizeOf Try.prog 51 1 := ⟨Try.sizeOf51⟩
instance : Und Try.prog 51 (Go.TypeDesc.func #[24, 24] #[4] Bool.false) := ⟨Try.underlying51⟩
instance : ZeroOf Try.prog 51 (Go.Value.nilFunc) := ⟨Try.zeroValue51⟩
instance : Body Try.prog 52 := ⟨Try.call52⟩
instance : NonAgg Try.prog 52 := ⟨Try.isAgg52⟩
instance : SizeOf Try.prog 52 1 := ⟨Try.sizeOf52⟩
instance : Und Try.prog 52 (Go.TypeDesc.func #[23, 24] #[4] Bool.false) := ⟨Try.underlying52⟩
instance : ZeroOf Try.prog 52 (Go.Value.nilFunc) := ⟨Try.zeroValue52⟩
instance : Body Try.prog 53 := ⟨Try.call53⟩
instance : NonAgg Try.prog 53 := ⟨Try.isAgg53⟩
instance : SizeOf Try.prog 53 1 := ⟨Try.sizeOf53⟩
instance : Und Try.prog 53 (Go.TypeDesc.func #[23, 3] #[29] Bool.false) := ⟨Try.underlying53⟩
instance : ZeroOf Try.prog 53 (Go.Value.nilFunc) := ⟨Try.zeroValue53⟩
instance : Body Try.prog 54 := ⟨Try.call54⟩
instance : NonAgg Try.prog 54 := ⟨Try.isAgg54⟩
instance : SizeOf Try.prog 54 1 := ⟨Try.sizeOf54⟩
instance : Und Try.prog 54 (Go.TypeDesc.slice 28) := ⟨Try.underlying54⟩
instance : ZeroOf Try.prog 54 (Go.Value.slice Option.none 0 0) := ⟨Try.zeroValue54⟩
instance : Body Try.prog 55 := ⟨Try.call55⟩
instance : NonAgg Try.prog 55 := ⟨Try.isAgg55⟩
instance : SizeOf Try.prog 55 1 := ⟨Try.sizeOf55⟩
instance : Und Try.prog 55 (Go.TypeDesc.func #[24] #[54] Bool.false) := ⟨Try.underlying55⟩
instance : ZeroOf Try.prog 55 (Go.Value.nilFunc) := ⟨Try.zeroValue55⟩
instance : Body Try.prog 56 := ⟨Try.call56⟩
instance : NonAgg Try.prog 56 := ⟨Try.isAgg56⟩
instance : SizeOf Try.prog 56 1 := ⟨Try.sizeOf56⟩
instance : Und Try.prog 56 (Go.TypeDesc.func #[87] #[] Bool.false) := ⟨Try.underlying56⟩
instance : ZeroOf Try.prog 56 (Go.Value.nilFunc) := ⟨Try.zeroValue56⟩
instance : Body Try.prog 57 := ⟨Try.call57⟩
instance : NonAgg Try.prog 57 := ⟨Try.isAgg57⟩
instance : SizeOf Try.prog 57 1 := ⟨Try.sizeOf57⟩
instance : Und Try.prog 57 (Go.TypeDesc.func #[87] #[] Bool.false) := ⟨Try.underlying57⟩
instance : ZeroOf Try.prog 57 (Go.Value.nilFunc) := ⟨Try.zeroValue57⟩
instance : Body Try.prog 58 := ⟨Try.call58⟩
instance : NonAgg Try.prog 58 := ⟨Try.isAgg58⟩
instance : SizeOf Try.prog 58 1 := ⟨Try.sizeOf58⟩
instance : Und Try.prog 58 (Go.TypeDesc.func #[24] #[57] Bool.false) := ⟨Try.underlying58⟩
instance : ZeroOf Try.prog 58 (Go.Value.nilFunc) := ⟨Try.zeroValue58⟩
instance : Body Try.prog 59 := ⟨Try.call59⟩
instance : NonAgg Try.prog 59 := ⟨Try.isAgg59⟩
instance : SizeOf Try.prog 59 1 := ⟨Try.sizeOf59⟩
instance : Und Try.prog 59 (Go.TypeDesc.func #[28, 28] #[4] Bool.false) := ⟨Try.underlying59⟩
instance : ZeroOf Try.prog 59 (Go.Value.nilFunc) := ⟨Try.zeroValue59⟩
instance : Body Try.prog 60 := ⟨Try.call60⟩
instance : NonAgg Try.prog 60 := ⟨Try.isAgg60⟩
instance : SizeOf Try.prog 60 1 := ⟨Try.sizeOf60⟩
instance : Und Try.prog 60 (Go.TypeDesc.func #[23, 3, 24] #[4] Bool.false) := ⟨Try.underlying60⟩
instance : ZeroOf Try.prog 60 (Go.Value.nilFunc) := ⟨Try.zeroValue60⟩
instance : Body Try.prog 61 := ⟨Try.call61⟩
instance : NonAgg Try.prog 61 := ⟨Try.isAgg61⟩
instance : SizeOf Try.prog 61 1 := ⟨Try.sizeOf61⟩
instance : Und Try.prog 61 (Go.TypeDesc.slice 4) := ⟨Try.underlying61⟩
instance : ZeroOf Try.prog 61 (Go.Value.slice Option.none 0 0) := ⟨Try.zeroValue61⟩
instance : Body Try.prog 62 := ⟨Try.call62⟩
instance : IsAggT Try.prog 62 := ⟨Try.isAgg62⟩
instance : SizeOf Try.prog 62 2 := ⟨Try.sizeOf62⟩
instance : Und Try.prog 62 (Go.TypeDesc.struct #[{ name := "Fuse", type := 5, offset := 0, embedded := Bool.false, tag := "", pkgPath := "", byteOffset := 0 }, { name := "Keep", type := 61, offset := 1, embedded := Bool.false, tag := "", pkgPath := "", byteOffset := 8 }]) := ⟨Try.underlying62⟩
instance : ZeroOf Try.prog 62 (Go.Value.agg #[Go.Value.int Go.IntKind.u8 0, Go.Value.slice Option.none 0 0]) := ⟨Try.zeroValue62⟩
instance : Body Try.prog 63 := ⟨Try.call63⟩
instance : IsAggT Try.prog 63 := ⟨Try.isAgg63⟩
instance : SizeOf Try.prog 63 2 := ⟨Try.sizeOf63⟩
instance : Und Try.prog 63 (Go.TypeDesc.struct #[{ name := "Fuse", type := 5, offset := 0, embedded := Bool.false, tag := "", pkgPath := "", byteOffset := 0 }, { name := "Keep", type := 61, offset := 1, embedded := Bool.false, tag := "", pkgPath := "", byteOffset := 8 }]) := ⟨Try.underlying63⟩
instance : ZeroOf Try.prog 63 (Go.Value.agg #[Go.Value.int Go.IntKind.u8 0, Go.Value.slice Option.none 0 0]) := ⟨Try.zeroValue63⟩
instance : Body Try.prog 64 := ⟨Try.call64⟩
instance : NonAgg Try.prog 64 := ⟨Try.isAgg64⟩
instance : SizeOf Try.prog 64 1 := ⟨Try.sizeOf64⟩
instance : Und Try.prog 64 (Go.TypeDesc.func #[3, 61] #[29] Bool.true) := ⟨Try.underlying64⟩
instance : ZeroOf Try.prog 64 (Go.Value.nilFunc) := ⟨Try.zeroValue64⟩
instance : Body Try.prog 65 := ⟨Try.call65⟩
instance : NonAgg Try.prog 65 := ⟨Try.isAgg65⟩
instance : SizeOf Try.prog 65 1 := ⟨Try.sizeOf65⟩
instance : Und Try.prog 65 (Go.TypeDesc.func #[] #[29] Bool.false) := ⟨Try.underlying65⟩
instance : ZeroOf Try.prog 65 (Go.Value.nilFunc) := ⟨Try.zeroValue65⟩
instance : Body Try.prog 66 := ⟨Try.call66⟩
instance : NonAgg Try.prog 66 := ⟨Try.isAgg66⟩
instance : SizeOf Try.prog 66 1 := ⟨Try.sizeOf66⟩
instance : Und Try.prog 66 (Go.TypeDesc.func #[24, 24, 63] #[4] Bool.false) := ⟨Try.underlying66⟩
instance : ZeroOf Try.prog 66 (Go.Value.nilFunc) := ⟨Try.zeroValue66⟩
instance : Body Try.prog 67 := ⟨Try.call67⟩
instance : NonAgg Try.prog 67 := ⟨Try.isAgg67⟩
instance : SizeOf Try.prog 67 1 := ⟨Try.sizeOf67⟩
instance : Und Try.prog 67 (Go.TypeDesc.slice 5) := ⟨Try.underlying67⟩
instance : ZeroOf Try.prog 67 (Go.Value.slice Option.none 0 0) := ⟨Try.zeroValue67⟩
instance : Body Try.prog 68 := ⟨Try.call68⟩
instance : NonAgg Try.prog 68 := ⟨Try.isAgg68⟩
instance : SizeOf Try.prog 68 1 := ⟨Try.sizeOf68⟩
instance : Und Try.prog 68 (Go.TypeDesc.func #[61] #[29] Bool.true) := ⟨Try.underlying68⟩
instance : ZeroOf Try.prog 68 (Go.Value.nilFunc) := ⟨Try.zeroValue68⟩
instance : Body Try.prog 69 := ⟨Try.call69⟩
instance : NonAgg Try.prog 69 := ⟨Try.isAgg69⟩
instance : SizeOf Try.prog 69 1 := ⟨Try.sizeOf69⟩
instance : Und Try.prog 69 (Go.TypeDesc.func #[24, 67, 61] #[4] Bool.false) := ⟨Try.underlying69⟩
instance : ZeroOf Try.prog 69 (Go.Value.nilFunc) := ⟨Try.zeroValue69⟩
instance : Body Try.prog 70 := ⟨Try.call70⟩
instance : NonAgg Try.prog 70 := ⟨Try.isAgg70⟩
instance : SizeOf Try.prog 70 1 := ⟨Try.sizeOf70⟩
instance : Und Try.prog 70 (Go.TypeDesc.func #[26, 26] #[4] Bool.false) := ⟨Try.underlying70⟩
instance : ZeroOf Try.prog 70 (Go.Value.nilFunc) := ⟨Try.zeroValue70⟩
instance : Body Try.prog 71 := ⟨Try.call71⟩
instance : NonAgg Try.prog 71 := ⟨Try.isAgg71⟩
instance : SizeOf Try.prog 71 1 := ⟨Try.sizeOf71⟩
instance : Und Try.prog 71 (Go.TypeDesc.func #[24, 67] #[4] Bool.false) := ⟨Try.underlying71⟩
instance : ZeroOf Try.prog 71 (Go.Value.nilFunc) := ⟨Try.zeroValue71⟩
instance : Body Try.prog 72 := ⟨Try.call72⟩
instance : NonAgg Try.prog 72 := ⟨Try.isAgg72⟩
instance : SizeOf Try.prog 72 1 := ⟨Try.sizeOf72⟩
instance : Und Try.prog 72 (Go.TypeDesc.func #[26, 23] #[29] Bool.false) := ⟨Try.underlying72⟩
instance : ZeroOf Try.prog 72 (Go.Value.nilFunc) := ⟨Try.zeroValue72⟩
instance : Body Try.prog 73 := ⟨Try.call73⟩
instance : NonAgg Try.prog 73 := ⟨Try.isAgg73⟩
instance : SizeOf Try.prog 73 1 := ⟨Try.sizeOf73⟩
instance : Und Try.prog 73 (Go.TypeDesc.tuple #[67, 29]) := ⟨Try.underlying73⟩
instance : ZeroOf Try.prog 73 (Go.Value.tuple #[Go.Value.slice Option.none 0 0, Go.Value.int Go.IntKind.i64 0]) := ⟨Try.zeroValue73⟩
instance : Body Try.prog 74 := ⟨Try.call74⟩
instance : NonAgg Try.prog 74 := ⟨Try.isAgg74⟩
instance : SizeOf Try.prog 74 1 := ⟨Try.sizeOf74⟩
instance : Und Try.prog 74 (Go.TypeDesc.func #[3] #[67, 29] Bool.false) := ⟨Try.underlying74⟩
instance : ZeroOf Try.prog 74 (Go.Value.nilFunc) := ⟨Try.zeroValue74⟩
instance : Body Try.prog 75 := ⟨Try.call75⟩
instance : NonAgg Try.prog 75 := ⟨Try.isAgg75⟩
instance : SizeOf Try.prog 75 1 := ⟨Try.sizeOf75⟩
instance : Und Try.prog 75 (Go.TypeDesc.tuple #[67, 3, 29]) := ⟨Try.underlying75⟩
instance : ZeroOf Try.prog 75 (Go.Value.tuple #[Go.Value.slice Option.none 0 0, Go.Value.int Go.IntKind.i64 0, Go.Value.int Go.IntKind.i64 0]) := ⟨Try.zeroValue75⟩
instance : Body Try.prog 76 := ⟨Try.call76⟩
instance : NonAgg Try.prog 76 := ⟨Try.isAgg76⟩
instance : SizeOf Try.prog 76 1 := ⟨Try.sizeOf76⟩
instance : Und Try.prog 76 (Go.TypeDesc.func #[67] #[67, 3, 29] Bool.false) := ⟨Try.underlying76⟩
instance : ZeroOf Try.prog 76 (Go.Value.nilFunc) := ⟨Try.zeroValue76⟩
instance : Body Try.prog 77 := ⟨Try.call77⟩
instance : NonAgg Try.prog 77 := ⟨Try.isAgg77⟩
instance : SizeOf Try.prog 77 1 := ⟨Try.sizeOf77⟩
instance : Und Try.prog 77 (Go.TypeDesc.func #[67] #[28, 29] Bool.false) := ⟨Try.underlying77⟩
instance : ZeroOf Try.prog 77 (Go.Value.nilFunc) := ⟨Try.zeroValue77⟩
instance : Body Try.prog 78 := ⟨Try.call78⟩
instance : NonAgg Try.prog 78 := ⟨Try.isAgg78⟩
instance : SizeOf Try.prog 78 1 := ⟨Try.sizeOf78⟩
instance : Und Try.prog 78 (Go.TypeDesc.func #[28] #[67, 29] Bool.false) := ⟨Try.underlying78⟩
instance : ZeroOf Try.prog 78 (Go.Value.nilFunc) := ⟨Try.zeroValue78⟩
instance : Body Try.prog 79 := ⟨Try.call79⟩
instance : NonAgg Try.prog 79 := ⟨Try.isAgg79⟩
instance : SizeOf Try.prog 79 1 := ⟨Try.sizeOf79⟩
instance : Und Try.prog 79 (Go.TypeDesc.func #[67] #[67, 29] Bool.false) := ⟨Try.underlying79⟩
instance : ZeroOf Try.prog 79 (Go.Value.nilFunc) := ⟨Try.zeroValue79⟩
instance : Body Try.prog 80 := ⟨Try.call80⟩
instance : NonAgg Try.prog 80 := ⟨Try.isAgg80⟩
instance : SizeOf Try.prog 80 1 := ⟨Try.sizeOf80⟩
instance : Und Try.prog 80 (Go.TypeDesc.func #[67] #[67] Bool.false) := ⟨Try.underlying80⟩
instance : ZeroOf Try.prog 80 (Go.Value.nilFunc) := ⟨Try.zeroValue80⟩
instance : Body Try.prog 81 := ⟨Try.call81⟩
instance : NonAgg Try.prog 81 := ⟨Try.isAgg81⟩
instance : SizeOf Try.prog 81 1 := ⟨Try.sizeOf81⟩
instance : Und Try.prog 81 (Go.TypeDesc.func #[3, 67] #[29] Bool.true) := ⟨Try.underlying81⟩
instance : ZeroOf Try.prog 81 (Go.Value.nilFunc) := ⟨Try.zeroValue81⟩
instance : Body Try.prog 82 := ⟨Try.call82⟩
instance : NonAgg Try.prog 82 := ⟨Try.isAgg82⟩
instance : SizeOf Try.prog 82 1 := ⟨Try.sizeOf82⟩
instance : Und Try.prog 82 (Go.TypeDesc.slice 67) := ⟨Try.underlying82⟩
instance : ZeroOf Try.prog 82 (Go.Value.slice Option.none 0 0) := ⟨Try.zeroValue82⟩
instance : Body Try.prog 83 := ⟨Try.call83⟩
instance : NonAgg Try.prog 83 := ⟨Try.isAgg83⟩
instance : SizeOf Try.prog 83 1 := ⟨Try.sizeOf83⟩
instance : Und Try.prog 83 (Go.TypeDesc.map 3 67) := ⟨Try.underlying83⟩
instance : ZeroOf Try.prog 83 (Go.Value.map Option.none) := ⟨Try.zeroValue83⟩
instance : Body Try.prog 84 := ⟨Try.call84⟩
instance : IsAggT Try.prog 84 := ⟨Try.isAgg84⟩
instance : SizeOf Try.prog 84 6 := ⟨Try.sizeOf84⟩
instance : Und Try.prog 84 (Go.TypeDesc.struct #[{ name := "sure", type := 82, offset := 0, embedded := Bool.false, tag := "", pkgPath := "cresset/disk", byteOffset := 0 }, { name := "dirty", type := 83, offset := 1, embedded := Bool.false, tag := "", pkgPath := "cresset/disk", byteOffset := 24 }, { name := "down", type := 4, offset := 2, embedded := Bool.false, tag := "", pkgPath := "cresset/disk", byteOffset := 32 }, { name := "calls", type := 2, offset := 3, embedded := Bool.false, tag := "", pkgPath := "cresset/disk", byteOffset := 40 }, { name := "fuse", type := 3, offset := 4, embedded := Bool.false, tag := "", pkgPath := "cresset/disk", byteOffset := 48 }, { name := "keep", type := 61, offset := 5, embedded := Bool.false, tag := "", pkgPath := "cresset/disk", byteOffset := 56 }]) := ⟨Try.underlying84⟩
instance : ZeroOf Try.prog 84 (Go.Value.agg #[Go.Value.slice Option.none 0 0, Go.Value.map Option.none, Go.Value.bool Bool.false, Go.Value.int Go.IntKind.i64 0, Go.Value.int Go.IntKind.i64 0, Go.Value.slice Option.none 0 0]) := ⟨Try.zeroValue84⟩
instance : Body Try.prog 85 := ⟨Try.call85⟩
instance : IsAggT Try.prog 85 := ⟨Try.isAgg85⟩
instance : SizeOf Try.prog 85 6 := ⟨Try.sizeOf85⟩
instance : Und Try.prog 85 (Go.TypeDesc.struct #[{ name := "sure", type := 82, offset := 0, embedded := Bool.false, tag := "", pkgPath := "cresset/disk", byteOffset := 0 }, { name := "dirty", type := 83, offset := 1, embedded := Bool.false, tag := "", pkgPath := "cresset/disk", byteOffset := 24 }, { name := "down", type := 4, offset := 2, embedded := Bool.false, tag := "", pkgPath := "cresset/disk", byteOffset := 32 }, { name := "calls", type := 2, offset := 3, embedded := Bool.false, tag := "", pkgPath := "cresset/disk", byteOffset := 40 }, { name := "fuse", type := 3, offset := 4, embedded := Bool.false, tag := "", pkgPath := "cresset/disk", byteOffset := 48 }, { name := "keep", type := 61, offset := 5, embedded := Bool.false, tag := "", pkgPath := "cresset/disk", byteOffset := 56 }]) := ⟨Try.underlying85⟩
instance : ZeroOf Try.prog 85 (Go.Value.agg #[Go.Value.slice Option.none 0 0, Go.Value.map Option.none, Go.Value.bool Bool.false, Go.Value.int Go.IntKind.i64 0, Go.Value.int Go.IntKind.i64 0, Go.Value.slice Option.none 0 0]) := ⟨Try.zeroValue85⟩
instance : Body Try.prog 86 := ⟨Try.call86⟩
instance : NonAgg Try.prog 86 := ⟨Try.isAgg86⟩
instance : SizeOf Try.prog 86 1 := ⟨Try.sizeOf86⟩
instance : Und Try.prog 86 (Go.TypeDesc.func #[28] #[29] Bool.false) := ⟨Try.underlying86⟩
instance : ZeroOf Try.prog 86 (Go.Value.nilFunc) := ⟨Try.zeroValue86⟩
instance : Body Try.prog 87 := ⟨Try.call87⟩
instance : NonAgg Try.prog 87 := ⟨Try.isAgg87⟩
instance : SizeOf Try.prog 87 1 := ⟨Try.sizeOf87⟩
instance : Und Try.prog 87 (Go.TypeDesc.func #[28] #[4] Bool.false) := ⟨Try.underlying87⟩
instance : ZeroOf Try.prog 87 (Go.Value.nilFunc) := ⟨Try.zeroValue87⟩
instance : Body Try.prog 88 := ⟨Try.call88⟩
instance : NonAgg Try.prog 88 := ⟨Try.isAgg88⟩
instance : SizeOf Try.prog 88 1 := ⟨Try.sizeOf88⟩
instance : Und Try.prog 88 (Go.TypeDesc.func #[61] #[61] Bool.false) := ⟨Try.underlying88⟩
instance : ZeroOf Try.prog 88 (Go.Value.nilFunc) := ⟨Try.zeroValue88⟩
instance : Body Try.prog 89 := ⟨Try.call89⟩
instance : NonAgg Try.prog 89 := ⟨Try.isAgg89⟩
instance : SizeOf Try.prog 89 1 := ⟨Try.sizeOf89⟩
instance : Und Try.prog 89 (Go.TypeDesc.func #[3] #[29] Bool.false) := ⟨Try.underlying89⟩
instance : ZeroOf Try.prog 89 (Go.Value.nilFunc) := ⟨Try.zeroValue89⟩
instance : Body Try.prog 90 := ⟨Try.call90⟩
instance : NonAgg Try.prog 90 := ⟨Try.isAgg90⟩
instance : SizeOf Try.prog 90 1 := ⟨Try.sizeOf90⟩
instance : Und Try.prog 90 (Go.TypeDesc.func #[61] #[] Bool.false) := ⟨Try.underlying90⟩
instance : ZeroOf Try.prog 90 (Go.Value.nilFunc) := ⟨Try.zeroValue90⟩
instance : Body Try.prog 91 := ⟨Try.call91⟩
instance : NonAgg Try.prog 91 := ⟨Try.isAgg91⟩
instance : SizeOf Try.prog 91 1 := ⟨Try.sizeOf91⟩
instance : Und Try.prog 91 (Go.TypeDesc.func #[67, 67] #[4] Bool.false) := ⟨Try.underlying91⟩
instance : ZeroOf Try.prog 91 (Go.Value.nilFunc) := ⟨Try.zeroValue91⟩
instance : Body Try.prog 92 := ⟨Try.call92⟩
instance : NonAgg Try.prog 92 := ⟨Try.isAgg92⟩
instance : SizeOf Try.prog 92 1 := ⟨Try.sizeOf92⟩
instance : Und Try.prog 92 (Go.TypeDesc.func #[3] #[67] Bool.false) := ⟨Try.underlying92⟩
instance : ZeroOf Try.prog 92 (Go.Value.nilFunc) := ⟨Try.zeroValue92⟩
instance : NonAgg Try.prog 93 := ⟨Try.isAgg93⟩
instance : SizeOf Try.prog 93 1 := ⟨Try.sizeOf93⟩
instance : Und Try.prog 93 (Go.TypeDesc.tuple #[2, 3, 29]) := ⟨Try.underlying93⟩
instance : ZeroOf Try.prog 93 (Go.Value.tuple #[Go.Value.int Go.IntKind.i64 0, Go.Value.int Go.IntKind.i64 0, Go.Value.int Go.IntKind.i64 0]) := ⟨Try.zeroValue93⟩
instance : NonAgg Try.prog 94 := ⟨Try.isAgg94⟩
instance : SizeOf Try.prog 94 1 := ⟨Try.sizeOf94⟩
instance : Und Try.prog 94 (Go.TypeDesc.func #[67] #[2, 3, 29] Bool.false) := ⟨Try.underlying94⟩
instance : ZeroOf Try.prog 94 (Go.Value.nilFunc) := ⟨Try.zeroValue94⟩
instance : NonAgg Try.prog 95 := ⟨Try.isAgg95⟩
instance : SizeOf Try.prog 95 1 := ⟨Try.sizeOf95⟩
instance : Und Try.prog 95 (Go.TypeDesc.int Go.IntKind.u32) := ⟨Try.underlying95⟩
instance : ZeroOf Try.prog 95 (Go.Value.int Go.IntKind.u32 0) := ⟨Try.zeroValue95⟩
instance : NonAgg Try.prog 96 := ⟨Try.isAgg96⟩
instance : SizeOf Try.prog 96 1 := ⟨Try.sizeOf96⟩
instance : Und Try.prog 96 (Go.TypeDesc.int Go.IntKind.u64) := ⟨Try.underlying96⟩
instance : ZeroOf Try.prog 96 (Go.Value.int Go.IntKind.u64 0) := ⟨Try.zeroValue96⟩
instance : NonAgg Try.prog 97 := ⟨Try.isAgg97⟩
instance : SizeOf Try.prog 97 1 := ⟨Try.sizeOf97⟩
instance : Und Try.prog 97 (Go.TypeDesc.func #[82] #[95] Bool.true) := ⟨Try.underlying97⟩
instance : ZeroOf Try.prog 97 (Go.Value.nilFunc) := ⟨Try.zeroValue97⟩
instance : NonAgg Try.prog 98 := ⟨Try.isAgg98⟩
instance : SizeOf Try.prog 98 1 := ⟨Try.sizeOf98⟩
instance : Und Try.prog 98 (Go.TypeDesc.pointer 100) := ⟨Try.underlying98⟩
instance : ZeroOf Try.prog 98 (Go.Value.pointer Option.none) := ⟨Try.zeroValue98⟩
instance : IsAggT Try.prog 99 := ⟨Try.isAgg99⟩
instance : SizeOf Try.prog 99 3 := ⟨Try.sizeOf99⟩
instance : Und Try.prog 99 (Go.TypeDesc.struct #[{ name := "b", type := 67, offset := 0, embedded := Bool.false, tag := "", pkgPath := "cresset/record", byteOffset := 0 }, { name := "at", type := 3, offset := 1, embedded := Bool.false, tag := "", pkgPath := "cresset/record", byteOffset := 24 }, { name := "e", type := 29, offset := 2, embedded := Bool.false, tag := "", pkgPath := "cresset/record", byteOffset := 32 }]) := ⟨Try.underlying99⟩
instance : ZeroOf Try.prog 99 (Go.Value.agg #[Go.Value.slice Option.none 0 0, Go.Value.int Go.IntKind.i64 0, Go.Value.int Go.IntKind.i64 0]) := ⟨Try.zeroValue99⟩
instance : IsAggT Try.prog 100 := ⟨Try.isAgg100⟩
instance : SizeOf Try.prog 100 3 := ⟨Try.sizeOf100⟩
instance : Und Try.prog 100 (Go.TypeDesc.struct #[{ name := "b", type := 67, offset := 0, embedded := Bool.false, tag := "", pkgPath := "cresset/record", byteOffset := 0 }, { name := "at", type := 3, offset := 1, embedded := Bool.false, tag := "", pkgPath := "cresset/record", byteOffset := 24 }, { name := "e", type := 29, offset := 2, embedded := Bool.false, tag := "", pkgPath := "cresset/record", byteOffset := 32 }]) := ⟨Try.underlying100⟩
instance : ZeroOf Try.prog 100 (Go.Value.agg #[Go.Value.slice Option.none 0 0, Go.Value.int Go.IntKind.i64 0, Go.Value.int Go.IntKind.i64 0]) := ⟨Try.zeroValue100⟩
instance : NonAgg Try.prog 101 := ⟨Try.isAgg101⟩
instance : SizeOf Try.prog 101 1 := ⟨Try.sizeOf101⟩
instance : Und Try.prog 101 (Go.TypeDesc.func #[] #[2] Bool.false) := ⟨Try.underlying101⟩
instance : ZeroOf Try.prog 101 (Go.Value.nilFunc) := ⟨Try.zeroValue101⟩
instance : NonAgg Try.prog 102 := ⟨Try.isAgg102⟩
instance : SizeOf Try.prog 102 1 := ⟨Try.sizeOf102⟩
instance : Und Try.prog 102 (Go.TypeDesc.func #[3] #[3] Bool.false) := ⟨Try.underlying102⟩
instance : ZeroOf Try.prog 102 (Go.Value.nilFunc) := ⟨Try.zeroValue102⟩
instance : NonAgg Try.prog 103 := ⟨Try.isAgg103⟩
instance : SizeOf Try.prog 103 1 := ⟨Try.sizeOf103⟩
instance : Und Try.prog 103 (Go.TypeDesc.func #[] #[9] Bool.false) := ⟨Try.underlying103⟩
instance : ZeroOf Try.prog 103 (Go.Value.nilFunc) := ⟨Try.zeroValue103⟩
instance : NonAgg Try.prog 104 := ⟨Try.isAgg104⟩
instance : SizeOf Try.prog 104 1 := ⟨Try.sizeOf104⟩
instance : Und Try.prog 104 (Go.TypeDesc.func #[122] #[29] Bool.false) := ⟨Try.underlying104⟩
instance : ZeroOf Try.prog 104 (Go.Value.nilFunc) := ⟨Try.zeroValue104⟩
instance : IsAggT Try.prog 105 := ⟨Try.isAgg105⟩
instance : SizeOf Try.prog 105 3 := ⟨Try.sizeOf105⟩
instance : Und Try.prog 105 (Go.TypeDesc.struct #[{ name := "Chunk", type := 28, offset := 0, embedded := Bool.true, tag := "", pkgPath := "", byteOffset := 0 }]) := ⟨Try.underlying105⟩
instance : ZeroOf Try.prog 105 (Go.Value.agg #[Go.Value.int Go.IntKind.i64 0, Go.Value.slice Option.none 0 0, Go.Value.bool Bool.false]) := ⟨Try.zeroValue105⟩
instance : IsAggT Try.prog 106 := ⟨Try.isAgg106⟩
instance : SizeOf Try.prog 106 3 := ⟨Try.sizeOf106⟩
instance : Und Try.prog 106 (Go.TypeDesc.struct #[{ name := "Chunk", type := 28, offset := 0, embedded := Bool.true, tag := "", pkgPath := "", byteOffset := 0 }]) := ⟨Try.underlying106⟩
instance : ZeroOf Try.prog 106 (Go.Value.agg #[Go.Value.int Go.IntKind.i64 0, Go.Value.slice Option.none 0 0, Go.Value.bool Bool.false]) := ⟨Try.zeroValue106⟩
instance : NonAgg Try.prog 107 := ⟨Try.isAgg107⟩
instance : SizeOf Try.prog 107 1 := ⟨Try.sizeOf107⟩
instance : Und Try.prog 107 (Go.TypeDesc.func #[122] #[67, 29] Bool.false) := ⟨Try.underlying107⟩
instance : ZeroOf Try.prog 107 (Go.Value.nilFunc) := ⟨Try.zeroValue107⟩
instance : NonAgg Try.prog 108 := ⟨Try.isAgg108⟩
instance : SizeOf Try.prog 108 1 := ⟨Try.sizeOf108⟩
instance : Und Try.prog 108 (Go.TypeDesc.func #[67, 2] #[67] Bool.false) := ⟨Try.underlying108⟩
instance : ZeroOf Try.prog 108 (Go.Value.nilFunc) := ⟨Try.zeroValue108⟩
instance : Body Try.prog 109 := ⟨Try.call109⟩
instance : NonAgg Try.prog 109 := ⟨Try.isAgg109⟩
instance : SizeOf Try.prog 109 1 := ⟨Try.sizeOf109⟩
instance : Und Try.prog 109 (Go.TypeDesc.func #[9] #[29] Bool.false) := ⟨Try.underlying109⟩
instance : ZeroOf Try.prog 109 (Go.Value.nilFunc) := ⟨Try.zeroValue109⟩
instance : Body Try.prog 110 := ⟨Try.call110⟩
instance : NonAgg Try.prog 110 := ⟨Try.isAgg110⟩
instance : SizeOf Try.prog 110 1 := ⟨Try.sizeOf110⟩
instance : Und Try.prog 110 (Go.TypeDesc.func #[2] #[4] Bool.false) := ⟨Try.underlying110⟩
instance : ZeroOf Try.prog 110 (Go.Value.nilFunc) := ⟨Try.zeroValue110⟩
instance : Body Try.prog 111 := ⟨Try.call111⟩
instance : NonAgg Try.prog 111 := ⟨Try.isAgg111⟩
instance : SizeOf Try.prog 111 1 := ⟨Try.sizeOf111⟩
instance : Und Try.prog 111 (Go.TypeDesc.slice 3) := ⟨Try.underlying111⟩
instance : ZeroOf Try.prog 111 (Go.Value.slice Option.none 0 0) := ⟨Try.zeroValue111⟩
instance : Body Try.prog 112 := ⟨Try.call112⟩
instance : NonAgg Try.prog 112 := ⟨Try.isAgg112⟩
instance : SizeOf Try.prog 112 1 := ⟨Try.sizeOf112⟩
instance : Und Try.prog 112 (Go.TypeDesc.func #[] #[111] Bool.false) := ⟨Try.underlying112⟩
instance : ZeroOf Try.prog 112 (Go.Value.nilFunc) := ⟨Try.zeroValue112⟩
instance : Body Try.prog 113 := ⟨Try.call113⟩
instance : NonAgg Try.prog 113 := ⟨Try.isAgg113⟩
instance : SizeOf Try.prog 113 1 := ⟨Try.sizeOf113⟩
instance : Und Try.prog 113 (Go.TypeDesc.tuple #[67, 4]) := ⟨Try.underlying113⟩
instance : ZeroOf Try.prog 113 (Go.Value.tuple #[Go.Value.slice Option.none 0 0, Go.Value.bool Bool.false]) := ⟨Try.zeroValue113⟩
instance : Body Try.prog 114 := ⟨Try.call114⟩
instance : NonAgg Try.prog 114 := ⟨Try.isAgg114⟩
instance : SizeOf Try.prog 114 1 := ⟨Try.sizeOf114⟩
instance : Und Try.prog 114 (Go.TypeDesc.int Go.IntKind.u64) := ⟨Try.underlying114⟩
instance : ZeroOf Try.prog 114 (Go.Value.int Go.IntKind.u64 0) := ⟨Try.zeroValue114⟩
instance : Body Try.prog 115 := ⟨Try.call115⟩
instance : NonAgg Try.prog 115 := ⟨Try.isAgg115⟩
instance : SizeOf Try.prog 115 1 := ⟨Try.sizeOf115⟩
instance : Und Try.prog 115 (Go.TypeDesc.func #[2] #[3] Bool.false) := ⟨Try.underlying115⟩
instance : ZeroOf Try.prog 115 (Go.Value.nilFunc) := ⟨Try.zeroValue115⟩
instance : Body Try.prog 116 := ⟨Try.call116⟩
instance : NonAgg Try.prog 116 := ⟨Try.isAgg116⟩
instance : SizeOf Try.prog 116 1 := ⟨Try.sizeOf116⟩
instance : Und Try.prog 116 (Go.TypeDesc.func #[98, 94] #[2] Bool.false) := ⟨Try.underlying116⟩
instance : ZeroOf Try.prog 116 (Go.Value.nilFunc) := ⟨Try.zeroValue116⟩
instance : Body Try.prog 117 := ⟨Try.call117⟩
instance : NonAgg Try.prog 117 := ⟨Try.isAgg117⟩
instance : SizeOf Try.prog 117 1 := ⟨Try.sizeOf117⟩
instance : Und Try.prog 117 (Go.TypeDesc.func #[98, 118] #[4] Bool.false) := ⟨Try.underlying117⟩
instance : ZeroOf Try.prog 117 (Go.Value.nilFunc) := ⟨Try.zeroValue117⟩
instance : Body Try.prog 118 := ⟨Try.call118⟩
instance : NonAgg Try.prog 118 := ⟨Try.isAgg118⟩
instance : SizeOf Try.prog 118 1 := ⟨Try.sizeOf118⟩
instance : Und Try.prog 118 (Go.TypeDesc.func #[67] #[4, 3, 29] Bool.false) := ⟨Try.underlying118⟩
instance : ZeroOf Try.prog 118 (Go.Value.nilFunc) := ⟨Try.zeroValue118⟩
instance : NonAgg Try.prog 119 := ⟨Try.isAgg119⟩
instance : SizeOf Try.prog 119 1 := ⟨Try.sizeOf119⟩
instance : Und Try.prog 119 (Go.TypeDesc.func #[98, 120] #[9] Bool.false) := ⟨Try.underlying119⟩
instance : ZeroOf Try.prog 119 (Go.Value.nilFunc) := ⟨Try.zeroValue119⟩
instance : NonAgg Try.prog 120 := ⟨Try.isAgg120⟩
instance : SizeOf Try.prog 120 1 := ⟨Try.sizeOf120⟩
instance : Und Try.prog 120 (Go.TypeDesc.func #[67] #[9, 3, 29] Bool.false) := ⟨Try.underlying120⟩
instance : ZeroOf Try.prog 120 (Go.Value.nilFunc) := ⟨Try.zeroValue120⟩
instance : NonAgg Try.prog 121 := ⟨Try.isAgg121⟩
instance : SizeOf Try.prog 121 1 := ⟨Try.sizeOf121⟩
instance : Und Try.prog 121 (Go.TypeDesc.interface #[("cresset/record.check", 65), ("cresset/record.put", 80)]) := ⟨Try.underlying121⟩
instance : ZeroOf Try.prog 121 (Go.Value.nilIface) := ⟨Try.zeroValue121⟩
instance : NonAgg Try.prog 122 := ⟨Try.isAgg122⟩
instance : SizeOf Try.prog 122 1 := ⟨Try.sizeOf122⟩
instance : Und Try.prog 122 (Go.TypeDesc.interface #[("cresset/record.check", 65), ("cresset/record.put", 80)]) := ⟨Try.underlying122⟩
instance : ZeroOf Try.prog 122 (Go.Value.nilIface) := ⟨Try.zeroValue122⟩
instance : NonAgg Try.prog 123 := ⟨Try.isAgg123⟩
instance : SizeOf Try.prog 123 1 := ⟨Try.sizeOf123⟩
instance : Und Try.prog 123 (Go.TypeDesc.func #[129] #[] Bool.false) := ⟨Try.underlying123⟩
instance : ZeroOf Try.prog 123 (Go.Value.nilFunc) := ⟨Try.zeroValue123⟩
instance : NonAgg Try.prog 124 := ⟨Try.isAgg124⟩
instance : SizeOf Try.prog 124 1 := ⟨Try.sizeOf124⟩
instance : Und Try.prog 124 (Go.TypeDesc.func #[129] #[] Bool.false) := ⟨Try.underlying124⟩
instance : ZeroOf Try.prog 124 (Go.Value.nilFunc) := ⟨Try.zeroValue124⟩
instance : NonAgg Try.prog 125 := ⟨Try.isAgg125⟩
instance : SizeOf Try.prog 125 1 := ⟨Try.sizeOf125⟩
instance : Und Try.prog 125 (Go.TypeDesc.func #[83] #[124] Bool.false) := ⟨Try.underlying125⟩
instance : ZeroOf Try.prog 125 (Go.Value.nilFunc) := ⟨Try.zeroValue125⟩
instance : NonAgg Try.prog 126 := ⟨Try.isAgg126⟩
instance : SizeOf Try.prog 126 1 := ⟨Try.sizeOf126⟩
instance : Und Try.prog 126 (Go.TypeDesc.func #[111] #[] Bool.false) := ⟨Try.underlying126⟩
instance : ZeroOf Try.prog 126 (Go.Value.nilFunc) := ⟨Try.zeroValue126⟩
instance : NonAgg Try.prog 127 := ⟨Try.isAgg127⟩
instance : SizeOf Try.prog 127 1 := ⟨Try.sizeOf127⟩
instance : Und Try.prog 127 (Go.TypeDesc.tuple #[4, 3, 29]) := ⟨Try.underlying127⟩
instance : ZeroOf Try.prog 127 (Go.Value.tuple #[Go.Value.bool Bool.false, Go.Value.int Go.IntKind.i64 0, Go.Value.int Go.IntKind.i64 0]) := ⟨Try.zeroValue127⟩
instance : NonAgg Try.prog 128 := ⟨Try.isAgg128⟩
instance : SizeOf Try.prog 128 1 := ⟨Try.sizeOf128⟩
instance : Und Try.prog 128 (Go.TypeDesc.tuple #[9, 3, 29]) := ⟨Try.underlying128⟩
instance : ZeroOf Try.prog 128 (Go.Value.tuple #[Go.Value.string { data := #[] }, Go.Value.int Go.IntKind.i64 0, Go.Value.int Go.IntKind.i64 0]) := ⟨Try.zeroValue128⟩
instance : NonAgg Try.prog 129 := ⟨Try.isAgg129⟩
instance : SizeOf Try.prog 129 1 := ⟨Try.sizeOf129⟩
instance : Und Try.prog 129 (Go.TypeDesc.func #[3] #[4] Bool.false) := ⟨Try.underlying129⟩
instance : ZeroOf Try.prog 129 (Go.Value.nilFunc) := ⟨Try.zeroValue129⟩
instance : NonAgg Try.prog 130 := ⟨Try.isAgg130⟩
instance : SizeOf Try.prog 130 1 := ⟨Try.sizeOf130⟩
instance : Und Try.prog 130 (Go.TypeDesc.func #[111, 3, 3, 3] #[] Bool.false) := ⟨Try.underlying130⟩
instance : ZeroOf Try.prog 130 (Go.Value.nilFunc) := ⟨Try.zeroValue130⟩
instance : NonAgg Try.prog 131 := ⟨Try.isAgg131⟩
instance : SizeOf Try.prog 131 1 := ⟨Try.sizeOf131⟩
instance : Und Try.prog 131 (Go.TypeDesc.func #[96] #[3] Bool.false) := ⟨Try.underlying131⟩
instance : ZeroOf Try.prog 131 (Go.Value.nilFunc) := ⟨Try.zeroValue131⟩
instance : NonAgg Try.prog 132 := ⟨Try.isAgg132⟩
instance : SizeOf Try.prog 132 1 := ⟨Try.sizeOf132⟩
instance : Und Try.prog 132 (Go.TypeDesc.func #[111, 3, 3] #[] Bool.false) := ⟨Try.underlying132⟩
instance : ZeroOf Try.prog 132 (Go.Value.nilFunc) := ⟨Try.zeroValue132⟩
instance : NonAgg Try.prog 133 := ⟨Try.isAgg133⟩
instance : SizeOf Try.prog 133 1 := ⟨Try.sizeOf133⟩
instance : Und Try.prog 133 (Go.TypeDesc.int Go.IntKind.i64) := ⟨Try.underlying133⟩
instance : ZeroOf Try.prog 133 (Go.Value.int Go.IntKind.i64 0) := ⟨Try.zeroValue133⟩
instance : NonAgg Try.prog 134 := ⟨Try.isAgg134⟩
instance : SizeOf Try.prog 134 1 := ⟨Try.sizeOf134⟩
instance : Und Try.prog 134 (Go.TypeDesc.tuple #[3, 133]) := ⟨Try.underlying134⟩
instance : ZeroOf Try.prog 134 (Go.Value.tuple #[Go.Value.int Go.IntKind.i64 0, Go.Value.int Go.IntKind.i64 0]) := ⟨Try.zeroValue134⟩
instance : NonAgg Try.prog 135 := ⟨Try.isAgg135⟩
instance : SizeOf Try.prog 135 1 := ⟨Try.sizeOf135⟩
instance : Und Try.prog 135 (Go.TypeDesc.func #[111, 3, 3] #[3, 133] Bool.false) := ⟨Try.underlying135⟩
instance : ZeroOf Try.prog 135 (Go.Value.nilFunc) := ⟨Try.zeroValue135⟩
instance : NonAgg Try.prog 136 := ⟨Try.isAgg136⟩
instance : SizeOf Try.prog 136 1 := ⟨Try.sizeOf136⟩
instance : Und Try.prog 136 (Go.TypeDesc.func #[111, 3, 3] #[4] Bool.false) := ⟨Try.underlying136⟩
instance : ZeroOf Try.prog 136 (Go.Value.nilFunc) := ⟨Try.zeroValue136⟩
instance : NonAgg Try.prog 137 := ⟨Try.isAgg137⟩
instance : SizeOf Try.prog 137 1 := ⟨Try.sizeOf137⟩
instance : Und Try.prog 137 (Go.TypeDesc.func #[3, 3] #[4] Bool.false) := ⟨Try.underlying137⟩
instance : ZeroOf Try.prog 137 (Go.Value.nilFunc) := ⟨Try.zeroValue137⟩
instance : NonAgg Try.prog 138 := ⟨Try.isAgg138⟩
instance : SizeOf Try.prog 138 1 := ⟨Try.sizeOf138⟩
instance : Und Try.prog 138 (Go.TypeDesc.func #[111, 3, 3, 3] #[3] Bool.false) := ⟨Try.underlying138⟩
instance : ZeroOf Try.prog 138 (Go.Value.nilFunc) := ⟨Try.zeroValue138⟩
instance : NonAgg Try.prog 139 := ⟨Try.isAgg139⟩
instance : SizeOf Try.prog 139 1 := ⟨Try.sizeOf139⟩
instance : Und Try.prog 139 (Go.TypeDesc.tuple #[3, 4]) := ⟨Try.underlying139⟩
instance : ZeroOf Try.prog 139 (Go.Value.tuple #[Go.Value.int Go.IntKind.i64 0, Go.Value.bool Bool.false]) := ⟨Try.zeroValue139⟩
instance : NonAgg Try.prog 140 := ⟨Try.isAgg140⟩
instance : SizeOf Try.prog 140 1 := ⟨Try.sizeOf140⟩
instance : Und Try.prog 140 (Go.TypeDesc.func #[111, 3, 3, 3] #[3, 4] Bool.false) := ⟨Try.underlying140⟩
instance : ZeroOf Try.prog 140 (Go.Value.nilFunc) := ⟨Try.zeroValue140⟩
instance : NonAgg Try.prog 141 := ⟨Try.isAgg141⟩
instance : SizeOf Try.prog 141 1 := ⟨Try.sizeOf141⟩
instance : Und Try.prog 141 (Go.TypeDesc.func #[95] #[3] Bool.false) := ⟨Try.underlying141⟩
instance : ZeroOf Try.prog 141 (Go.Value.nilFunc) := ⟨Try.zeroValue141⟩
instance : NonAgg Try.prog 142 := ⟨Try.isAgg142⟩
instance : SizeOf Try.prog 142 1 := ⟨Try.sizeOf142⟩
instance : Und Try.prog 142 (Go.TypeDesc.func #[114] #[3] Bool.false) := ⟨Try.underlying142⟩
instance : ZeroOf Try.prog 142 (Go.Value.nilFunc) := ⟨Try.zeroValue142⟩
instance : NonAgg Try.prog 143 := ⟨Try.isAgg143⟩
instance : SizeOf Try.prog 143 1 := ⟨Try.sizeOf143⟩
instance : Und Try.prog 143 (Go.TypeDesc.int Go.IntKind.u64) := ⟨Try.underlying143⟩
instance : ZeroOf Try.prog 143 (Go.Value.int Go.IntKind.u64 0) := ⟨Try.zeroValue143⟩
instance : NonAgg Try.prog 144 := ⟨Try.isAgg144⟩
instance : SizeOf Try.prog 144 1 := ⟨Try.sizeOf144⟩
instance : Und Try.prog 144 (Go.TypeDesc.func #[3] #[96] Bool.false) := ⟨Try.underlying144⟩
instance : ZeroOf Try.prog 144 (Go.Value.nilFunc) := ⟨Try.zeroValue144⟩
instance : NonAgg Try.prog 145 := ⟨Try.isAgg145⟩
instance : SizeOf Try.prog 145 1 := ⟨Try.sizeOf145⟩
instance : Und Try.prog 145 (Go.TypeDesc.func #[] #[114] Bool.false) := ⟨Try.underlying145⟩
instance : ZeroOf Try.prog 145 (Go.Value.nilFunc) := ⟨Try.zeroValue145⟩
instance : NonAgg Try.prog 146 := ⟨Try.isAgg146⟩
instance : SizeOf Try.prog 146 1 := ⟨Try.sizeOf146⟩
instance : Und Try.prog 146 (Go.TypeDesc.func #[111, 3, 147] #[3] Bool.false) := ⟨Try.underlying146⟩
instance : ZeroOf Try.prog 146 (Go.Value.nilFunc) := ⟨Try.zeroValue146⟩
instance : NonAgg Try.prog 147 := ⟨Try.isAgg147⟩
instance : SizeOf Try.prog 147 1 := ⟨Try.sizeOf147⟩
instance : Und Try.prog 147 (Go.TypeDesc.pointer 3) := ⟨Try.underlying147⟩
instance : ZeroOf Try.prog 147 (Go.Value.pointer Option.none) := ⟨Try.zeroValue147⟩
instance : NonAgg Try.prog 148 := ⟨Try.isAgg148⟩
instance : SizeOf Try.prog 148 1 := ⟨Try.sizeOf148⟩
instance : Und Try.prog 148 (Go.TypeDesc.func #[111, 3, 3, 3, 147] #[3] Bool.false) := ⟨Try.underlying148⟩
instance : ZeroOf Try.prog 148 (Go.Value.nilFunc) := ⟨Try.zeroValue148⟩
instance : NonAgg Try.prog 149 := ⟨Try.isAgg149⟩
instance : SizeOf Try.prog 149 1 := ⟨Try.sizeOf149⟩
instance : Und Try.prog 149 (Go.TypeDesc.pointer 143) := ⟨Try.underlying149⟩
instance : ZeroOf Try.prog 149 (Go.Value.pointer Option.none) := ⟨Try.zeroValue149⟩
instance : NonAgg Try.prog 150 := ⟨Try.isAgg150⟩
instance : SizeOf Try.prog 150 1 := ⟨Try.sizeOf150⟩
instance : Und Try.prog 150 (Go.TypeDesc.tuple #[3, 3]) := ⟨Try.underlying150⟩
instance : ZeroOf Try.prog 150 (Go.Value.tuple #[Go.Value.int Go.IntKind.i64 0, Go.Value.int Go.IntKind.i64 0]) := ⟨Try.zeroValue150⟩
instance : NonAgg Try.prog 151 := ⟨Try.isAgg151⟩
instance : SizeOf Try.prog 151 1 := ⟨Try.sizeOf151⟩
instance : Und Try.prog 151 (Go.TypeDesc.func #[111, 3, 3, 147] #[3, 3] Bool.false) := ⟨Try.underlying151⟩
instance : ZeroOf Try.prog 151 (Go.Value.nilFunc) := ⟨Try.zeroValue151⟩
instance : IsAggT Try.prog 152 := ⟨Try.isAgg152⟩
instance : SizeOf Try.prog 152 4 := ⟨Try.sizeOf152⟩
instance : Und Try.prog 152 (Go.TypeDesc.struct #[{ name := "_interface", type := 17, offset := 0, embedded := Bool.false, tag := "", pkgPath := "runtime", byteOffset := 0 }, { name := "concrete", type := 17, offset := 1, embedded := Bool.false, tag := "", pkgPath := "runtime", byteOffset := 8 }, { name := "asserted", type := 17, offset := 2, embedded := Bool.false, tag := "", pkgPath := "runtime", byteOffset := 16 }, { name := "missingMethod", type := 9, offset := 3, embedded := Bool.false, tag := "", pkgPath := "runtime", byteOffset := 24 }]) := ⟨Try.underlying152⟩
instance : ZeroOf Try.prog 152 (Go.Value.agg #[Go.Value.pointer Option.none, Go.Value.pointer Option.none, Go.Value.pointer Option.none, Go.Value.string { data := #[] }]) := ⟨Try.zeroValue152⟩
instance : IsAggT Try.prog 153 := ⟨Try.isAgg153⟩
instance : SizeOf Try.prog 153 4 := ⟨Try.sizeOf153⟩
instance : Und Try.prog 153 (Go.TypeDesc.struct #[{ name := "_interface", type := 17, offset := 0, embedded := Bool.false, tag := "", pkgPath := "runtime", byteOffset := 0 }, { name := "concrete", type := 17, offset := 1, embedded := Bool.false, tag := "", pkgPath := "runtime", byteOffset := 8 }, { name := "asserted", type := 17, offset := 2, embedded := Bool.false, tag := "", pkgPath := "runtime", byteOffset := 16 }, { name := "missingMethod", type := 9, offset := 3, embedded := Bool.false, tag := "", pkgPath := "runtime", byteOffset := 24 }]) := ⟨Try.underlying153⟩
instance : ZeroOf Try.prog 153 (Go.Value.agg #[Go.Value.pointer Option.none, Go.Value.pointer Option.none, Go.Value.pointer Option.none, Go.Value.string { data := #[] }]) := ⟨Try.zeroValue153⟩
instance : IsAggT Try.prog 154 := ⟨Try.isAgg154⟩
instance : SizeOf Try.prog 154 0 := ⟨Try.sizeOf154⟩
instance : Und Try.prog 154 (Go.TypeDesc.array 0 16) := ⟨Try.underlying154⟩
instance : ZeroOf Try.prog 154 (Go.Value.agg #[]) := ⟨Try.zeroValue154⟩
instance : IsAggT Try.prog 155 := ⟨Try.isAgg155⟩
instance : SizeOf Try.prog 155 0 := ⟨Try.sizeOf155⟩
instance : Und Try.prog 155 (Go.TypeDesc.struct #[{ name := "_", type := 154, offset := 0, embedded := Bool.false, tag := "", pkgPath := "runtime", byteOffset := 0 }]) := ⟨Try.underlying155⟩
instance : ZeroOf Try.prog 155 (Go.Value.agg #[]) := ⟨Try.zeroValue155⟩
instance : IsAggT Try.prog 156 := ⟨Try.isAgg156⟩
instance : SizeOf Try.prog 156 0 := ⟨Try.sizeOf156⟩
instance : Und Try.prog 156 (Go.TypeDesc.struct #[{ name := "_", type := 154, offset := 0, embedded := Bool.false, tag := "", pkgPath := "runtime", byteOffset := 0 }]) := ⟨Try.underlying156⟩
instance : ZeroOf Try.prog 156 (Go.Value.agg #[]) := ⟨Try.zeroValue156⟩
instance : NonAgg Try.prog 157 := ⟨Try.isAgg157⟩
instance : SizeOf Try.prog 157 1 := ⟨Try.sizeOf157⟩
instance : Und Try.prog 157 (Go.TypeDesc.int Go.IntKind.u8) := ⟨Try.underlying157⟩
instance : ZeroOf Try.prog 157 (Go.Value.int Go.IntKind.u8 0) := ⟨Try.zeroValue157⟩
instance : NonAgg Try.prog 158 := ⟨Try.isAgg158⟩
instance : SizeOf Try.prog 158 1 := ⟨Try.sizeOf158⟩
instance : Und Try.prog 158 (Go.TypeDesc.int Go.IntKind.u8) := ⟨Try.underlying158⟩
instance : ZeroOf Try.prog 158 (Go.Value.int Go.IntKind.u8 0) := ⟨Try.zeroValue158⟩
instance : NonAgg Try.prog 159 := ⟨Try.isAgg159⟩
instance : SizeOf Try.prog 159 1 := ⟨Try.sizeOf159⟩
instance : Und Try.prog 159 (Go.TypeDesc.func #[171, 171] #[4] Bool.false) := ⟨Try.underlying159⟩
instance : ZeroOf Try.prog 159 (Go.Value.nilFunc) := ⟨Try.zeroValue159⟩
instance : NonAgg Try.prog 160 := ⟨Try.isAgg160⟩
instance : SizeOf Try.prog 160 1 := ⟨Try.sizeOf160⟩
instance : Und Try.prog 160 (Go.TypeDesc.pointer 5) := ⟨Try.underlying160⟩
instance : ZeroOf Try.prog 160 (Go.Value.pointer Option.none) := ⟨Try.zeroValue160⟩
instance : NonAgg Try.prog 161 := ⟨Try.isAgg161⟩
instance : SizeOf Try.prog 161 1 := ⟨Try.sizeOf161⟩
instance : Und Try.prog 161 (Go.TypeDesc.int Go.IntKind.i32) := ⟨Try.underlying161⟩
instance : ZeroOf Try.prog 161 (Go.Value.int Go.IntKind.i32 0) := ⟨Try.zeroValue161⟩
instance : NonAgg Try.prog 162 := ⟨Try.isAgg162⟩
instance : SizeOf Try.prog 162 1 := ⟨Try.sizeOf162⟩
instance : Und Try.prog 162 (Go.TypeDesc.int Go.IntKind.i32) := ⟨Try.underlying162⟩
instance : ZeroOf Try.prog 162 (Go.Value.int Go.IntKind.i32 0) := ⟨Try.zeroValue162⟩
instance : IsAggT Try.prog 163 := ⟨Try.isAgg163⟩
instance : SizeOf Try.prog 163 11 := ⟨Try.sizeOf163⟩
instance : Und Try.prog 163 (Go.TypeDesc.struct #[{ name := "Size_", type := 12, offset := 0, embedded := Bool.false, tag := "", pkgPath := "", byteOffset := 0 }, { name := "PtrBytes", type := 12, offset := 1, embedded := Bool.false, tag := "", pkgPath := "", byteOffset := 8 }, { name := "Hash", type := 95, offset := 2, embedded := Bool.false, tag := "", pkgPath := "", byteOffset := 16 }, { name := "TFlag", type := 157, offset := 3, embedded := Bool.false, tag := "", pkgPath := "", byteOffset := 20 }, { name := "Align_", type := 5, offset := 4, embedded := Bool.false, tag := "", pkgPath := "", byteOffset := 21 }, { name := "FieldAlign_", type := 5, offset := 5, embedded := Bool.false, tag := "", pkgPath := "", byteOffset := 22 }, { name := "Kind_", type := 158, offset := 6, embedded := Bool.false, tag := "", pkgPath := "", byteOffset := 23 }, { name := "Equal", type := 159, offset := 7, embedded := Bool.false, tag := "", pkgPath := "", byteOffset := 24 }, { name := "GCData", type := 160, offset := 8, embedded := Bool.false, tag := "", pkgPath := "", byteOffset := 32 }, { name := "Str", type := 161, offset := 9, embedded := Bool.false, tag := "", pkgPath := "", byteOffset := 40 }, { name := "PtrToThis", type := 162, offset := 10, embedded := Bool.false, tag := "", pkgPath := "", byteOffset := 44 }]) := ⟨Try.underlying163⟩
instance : ZeroOf Try.prog 163 (Go.Value.agg #[Go.Value.int Go.IntKind.u64 0, Go.Value.int Go.IntKind.u64 0, Go.Value.int Go.IntKind.u32 0, Go.Value.int Go.IntKind.u8 0, Go.Value.int Go.IntKind.u8 0, Go.Value.int Go.IntKind.u8 0, Go.Value.int Go.IntKind.u8 0, Go.Value.nilFunc, Go.Value.pointer Option.none, Go.Value.int Go.IntKind.i32 0, Go.Value.int Go.IntKind.i32 0]) := ⟨Try.zeroValue163⟩
instance : IsAggT Try.prog 164 := ⟨Try.isAgg164⟩
instance : SizeOf Try.prog 164 11 := ⟨Try.sizeOf164⟩
instance : Und Try.prog 164 (Go.TypeDesc.struct #[{ name := "Size_", type := 12, offset := 0, embedded := Bool.false, tag := "", pkgPath := "", byteOffset := 0 }, { name := "PtrBytes", type := 12, offset := 1, embedded := Bool.false, tag := "", pkgPath := "", byteOffset := 8 }, { name := "Hash", type := 95, offset := 2, embedded := Bool.false, tag := "", pkgPath := "", byteOffset := 16 }, { name := "TFlag", type := 157, offset := 3, embedded := Bool.false, tag := "", pkgPath := "", byteOffset := 20 }, { name := "Align_", type := 5, offset := 4, embedded := Bool.false, tag := "", pkgPath := "", byteOffset := 21 }, { name := "FieldAlign_", type := 5, offset := 5, embedded := Bool.false, tag := "", pkgPath := "", byteOffset := 22 }, { name := "Kind_", type := 158, offset := 6, embedded := Bool.false, tag := "", pkgPath := "", byteOffset := 23 }, { name := "Equal", type := 159, offset := 7, embedded := Bool.false, tag := "", pkgPath := "", byteOffset := 24 }, { name := "GCData", type := 160, offset := 8, embedded := Bool.false, tag := "", pkgPath := "", byteOffset := 32 }, { name := "Str", type := 161, offset := 9, embedded := Bool.false, tag := "", pkgPath := "", byteOffset := 40 }, { name := "PtrToThis", type := 162, offset := 10, embedded := Bool.false, tag := "", pkgPath := "", byteOffset := 44 }]) := ⟨Try.underlying164⟩
instance : ZeroOf Try.prog 164 (Go.Value.agg #[Go.Value.int Go.IntKind.u64 0, Go.Value.int Go.IntKind.u64 0, Go.Value.int Go.IntKind.u32 0, Go.Value.int Go.IntKind.u8 0, Go.Value.int Go.IntKind.u8 0, Go.Value.int Go.IntKind.u8 0, Go.Value.int Go.IntKind.u8 0, Go.Value.nilFunc, Go.Value.pointer Option.none, Go.Value.int Go.IntKind.i32 0, Go.Value.int Go.IntKind.i32 0]) := ⟨Try.zeroValue164⟩
instance : NonAgg Try.prog 165 := ⟨Try.isAgg165⟩
instance : SizeOf Try.prog 165 1 := ⟨Try.sizeOf165⟩
instance : Und Try.prog 165 (Go.TypeDesc.func #[67, 4] #[67] Bool.false) := ⟨Try.underlying165⟩
instance : ZeroOf Try.prog 165 (Go.Value.nilFunc) := ⟨Try.zeroValue165⟩
instance : NonAgg Try.prog 166 := ⟨Try.isAgg166⟩
instance : SizeOf Try.prog 166 1 := ⟨Try.sizeOf166⟩
instance : Und Try.prog 166 (Go.TypeDesc.func #[67, 9] #[67] Bool.false) := ⟨Try.underlying166⟩
instance : ZeroOf Try.prog 166 (Go.Value.nilFunc) := ⟨Try.zeroValue166⟩
instance : NonAgg Try.prog 167 := ⟨Try.isAgg167⟩
instance : SizeOf Try.prog 167 1 := ⟨Try.sizeOf167⟩
instance : Und Try.prog 167 (Go.TypeDesc.func #[170] #[29] Bool.true) := ⟨Try.underlying167⟩
instance : ZeroOf Try.prog 167 (Go.Value.nilFunc) := ⟨Try.zeroValue167⟩
instance : NonAgg Try.prog 168 := ⟨Try.isAgg168⟩
instance : SizeOf Try.prog 168 1 := ⟨Try.sizeOf168⟩
instance : Und Try.prog 168 (Go.TypeDesc.func #[4] #[29] Bool.false) := ⟨Try.underlying168⟩
instance : ZeroOf Try.prog 168 (Go.Value.nilFunc) := ⟨Try.zeroValue168⟩
instance : NonAgg Try.prog 169 := ⟨Try.isAgg169⟩
instance : SizeOf Try.prog 169 1 := ⟨Try.sizeOf169⟩
instance : Und Try.prog 169 (Go.TypeDesc.func #[2, 2] #[4] Bool.false) := ⟨Try.underlying169⟩
instance : ZeroOf Try.prog 169 (Go.Value.nilFunc) := ⟨Try.zeroValue169⟩
instance : NonAgg Try.prog 170 := ⟨Try.isAgg170⟩
instance : SizeOf Try.prog 170 1 := ⟨Try.sizeOf170⟩
instance : Und Try.prog 170 (Go.TypeDesc.slice 29) := ⟨Try.underlying170⟩
instance : ZeroOf Try.prog 170 (Go.Value.slice Option.none 0 0) := ⟨Try.zeroValue170⟩
instance : NonAgg Try.prog 171 := ⟨Try.isAgg171⟩
instance : SizeOf Try.prog 171 1 := ⟨Try.sizeOf171⟩
instance : Und Try.prog 171 (Go.TypeDesc.unsafePointer) := ⟨Try.underlying171⟩
instance : ZeroOf Try.prog 171 (Go.Value.pointer Option.none) := ⟨Try.zeroValue171⟩
instance : Fld Try.prog 7 0 0 := Fld.of (z := 0) (t := 2) Try.underlying7 rfl Try.sizeOf2
instance : Fld Try.prog 7 1 1 := Fld.of (z := 0) (t := 3) Try.underlying7 rfl Try.sizeOf3
instance : Fld Try.prog 7 2 2 := Fld.of (z := 0) (t := 4) Try.underlying7 rfl Try.sizeOf4
instance : Fld Try.prog 7 3 3 := Fld.of (z := 0) (t := 6) Try.underlying7 rfl Try.sizeOf6
instance : Places Try.prog 7 [(0, 1), (1, 1), (2, 1), (3, 1)] := ⟨_, Try.underlying7, fun w => by simp [Try.sizeOf2, Try.sizeOf3, Try.sizeOf4, Try.sizeOf6]⟩
instance : Fld Try.prog 8 0 0 := Fld.of (z := 0) (t := 2) Try.underlying8 rfl Try.sizeOf2
instance : Fld Try.prog 8 1 1 := Fld.of (z := 0) (t := 3) Try.underlying8 rfl Try.sizeOf3
instance : Fld Try.prog 8 2 2 := Fld.of (z := 0) (t := 4) Try.underlying8 rfl Try.sizeOf4
instance : Fld Try.prog 8 3 3 := Fld.of (z := 0) (t := 6) Try.underlying8 rfl Try.sizeOf6
instance : Places Try.prog 8 [(0, 1), (1, 1), (2, 1), (3, 1)] := ⟨_, Try.underlying8, fun w => by simp [Try.sizeOf2, Try.sizeOf3, Try.sizeOf4, Try.sizeOf6]⟩
instance : Fld Try.prog 13 0 0 := Fld.of (z := 0) (t := 9) Try.underlying13 rfl Try.sizeOf9
instance : Fld Try.prog 13 1 1 := Fld.of (z := 0) (t := 12) Try.underlying13 rfl Try.sizeOf12
instance : Places Try.prog 13 [(0, 1), (1, 1)] := ⟨_, Try.underlying13, fun w => by simp [Try.sizeOf12, Try.sizeOf9]⟩
instance : Fld Try.prog 14 0 0 := Fld.of (z := 0) (t := 9) Try.underlying14 rfl Try.sizeOf9
instance : Fld Try.prog 14 1 1 := Fld.of (z := 0) (t := 12) Try.underlying14 rfl Try.sizeOf12
instance : Places Try.prog 14 [(0, 1), (1, 1)] := ⟨_, Try.underlying14, fun w => by simp [Try.sizeOf12, Try.sizeOf9]⟩
instance : Fld Try.prog 18 0 0 := Fld.of (z := 0) (t := 17) Try.underlying18 rfl Try.sizeOf17
instance : Places Try.prog 18 [(0, 1)] := ⟨_, Try.underlying18, fun w => by simp [Try.sizeOf17]⟩
instance : Fld Try.prog 19 0 0 := Fld.of (z := 0) (t := 17) Try.underlying19 rfl Try.sizeOf17
instance : Places Try.prog 19 [(0, 1)] := ⟨_, Try.underlying19, fun w => by simp [Try.sizeOf17]⟩
instance : Fld Try.prog 22 0 0 := Fld.of (z := 0) (t := 3) Try.underlying22 rfl Try.sizeOf3
instance : Fld Try.prog 22 1 1 := Fld.of (z := 0) (t := 3) Try.underlying22 rfl Try.sizeOf3
instance : Places Try.prog 22 [(0, 1), (1, 1)] := ⟨_, Try.underlying22, fun w => by simp [Try.sizeOf3]⟩
instance : Fld Try.prog 23 0 0 := Fld.of (z := 0) (t := 3) Try.underlying23 rfl Try.sizeOf3
instance : Fld Try.prog 23 1 1 := Fld.of (z := 0) (t := 3) Try.underlying23 rfl Try.sizeOf3
instance : Places Try.prog 23 [(0, 1), (1, 1)] := ⟨_, Try.underlying23, fun w => by simp [Try.sizeOf3]⟩
instance : Fld Try.prog 27 0 0 := Fld.of (z := 0) (t := 3) Try.underlying27 rfl Try.sizeOf3
instance : Fld Try.prog 27 1 1 := Fld.of (z := 0) (t := 24) Try.underlying27 rfl Try.sizeOf24
instance : Fld Try.prog 27 2 2 := Fld.of (z := 0) (t := 4) Try.underlying27 rfl Try.sizeOf4
instance : Places Try.prog 27 [(0, 1), (1, 1), (2, 1)] := ⟨_, Try.underlying27, fun w => by simp [Try.sizeOf24, Try.sizeOf3, Try.sizeOf4]⟩
instance : Fld Try.prog 28 0 0 := Fld.of (z := 0) (t := 3) Try.underlying28 rfl Try.sizeOf3
instance : Fld Try.prog 28 1 1 := Fld.of (z := 0) (t := 24) Try.underlying28 rfl Try.sizeOf24
instance : Fld Try.prog 28 2 2 := Fld.of (z := 0) (t := 4) Try.underlying28 rfl Try.sizeOf4
instance : Places Try.prog 28 [(0, 1), (1, 1), (2, 1)] := ⟨_, Try.underlying28, fun w => by simp [Try.sizeOf24, Try.sizeOf3, Try.sizeOf4]⟩
instance : Fld Try.prog 38 0 0 := Fld.of (z := 0) (t := 26) Try.underlying38 rfl Try.sizeOf26
instance : Fld Try.prog 38 1 1 := Fld.of (z := 1) (t := 23) Try.underlying38 rfl Try.sizeOf23
instance : Fld Try.prog 38 2 3 := Fld.of (z := 0) (t := 24) Try.underlying38 rfl Try.sizeOf24
instance : Fld Try.prog 38 3 4 := Fld.of (z := 0) (t := 3) Try.underlying38 rfl Try.sizeOf3
instance : Fld Try.prog 38 4 5 := Fld.of (z := 0) (t := 4) Try.underlying38 rfl Try.sizeOf4
instance : Places Try.prog 38 [(0, 1), (1, 2), (3, 1), (4, 1), (5, 1)] := ⟨_, Try.underlying38, fun w => by simp [Try.sizeOf23, Try.sizeOf24, Try.sizeOf26, Try.sizeOf3, Try.sizeOf4]⟩
instance : Fld Try.prog 39 0 0 := Fld.of (z := 0) (t := 26) Try.underlying39 rfl Try.sizeOf26
instance : Fld Try.prog 39 1 1 := Fld.of (z := 1) (t := 23) Try.underlying39 rfl Try.sizeOf23
instance : Fld Try.prog 39 2 3 := Fld.of (z := 0) (t := 24) Try.underlying39 rfl Try.sizeOf24
instance : Fld Try.prog 39 3 4 := Fld.of (z := 0) (t := 3) Try.underlying39 rfl Try.sizeOf3
instance : Fld Try.prog 39 4 5 := Fld.of (z := 0) (t := 4) Try.underlying39 rfl Try.sizeOf4
instance : Places Try.prog 39 [(0, 1), (1, 2), (3, 1), (4, 1), (5, 1)] := ⟨_, Try.underlying39, fun w => by simp [Try.sizeOf23, Try.sizeOf24, Try.sizeOf26, Try.sizeOf3, Try.sizeOf4]⟩
instance : Fld Try.prog 49 0 0 := Fld.of (z := 0) (t := 9) Try.underlying49 rfl Try.sizeOf9
instance : Fld Try.prog 49 1 1 := Fld.of (z := 0) (t := 9) Try.underlying49 rfl Try.sizeOf9
instance : Fld Try.prog 49 2 2 := Fld.of (z := 0) (t := 2) Try.underlying49 rfl Try.sizeOf2
instance : Places Try.prog 49 [(0, 1), (1, 1), (2, 1)] := ⟨_, Try.underlying49, fun w => by simp [Try.sizeOf2, Try.sizeOf9]⟩
instance : Fld Try.prog 50 0 0 := Fld.of (z := 0) (t := 9) Try.underlying50 rfl Try.sizeOf9
instance : Fld Try.prog 50 1 1 := Fld.of (z := 0) (t := 9) Try.underlying50 rfl Try.sizeOf9
instance : Fld Try.prog 50 2 2 := Fld.of (z := 0) (t := 2) Try.underlying50 rfl Try.sizeOf2
instance : Places Try.prog 50 [(0, 1), (1, 1), (2, 1)] := ⟨_, Try.underlying50, fun w => by simp [Try.sizeOf2, Try.sizeOf9]⟩
instance : Fld Try.prog 62 0 0 := Fld.of (z := 0) (t := 5) Try.underlying62 rfl Try.sizeOf5
instance : Fld Try.prog 62 1 1 := Fld.of (z := 0) (t := 61) Try.underlying62 rfl Try.sizeOf61
instance : Places Try.prog 62 [(0, 1), (1, 1)] := ⟨_, Try.underlying62, fun w => by simp [Try.sizeOf5, Try.sizeOf61]⟩
instance : Fld Try.prog 63 0 0 := Fld.of (z := 0) (t := 5) Try.underlying63 rfl Try.sizeOf5
instance : Fld Try.prog 63 1 1 := Fld.of (z := 0) (t := 61) Try.underlying63 rfl Try.sizeOf61
instance : Places Try.prog 63 [(0, 1), (1, 1)] := ⟨_, Try.underlying63, fun w => by simp [Try.sizeOf5, Try.sizeOf61]⟩
instance : Fld Try.prog 84 0 0 := Fld.of (z := 0) (t := 82) Try.underlying84 rfl Try.sizeOf82
instance : Fld Try.prog 84 1 1 := Fld.of (z := 0) (t := 83) Try.underlying84 rfl Try.sizeOf83
instance : Fld Try.prog 84 2 2 := Fld.of (z := 0) (t := 4) Try.underlying84 rfl Try.sizeOf4
instance : Fld Try.prog 84 3 3 := Fld.of (z := 0) (t := 2) Try.underlying84 rfl Try.sizeOf2
instance : Fld Try.prog 84 4 4 := Fld.of (z := 0) (t := 3) Try.underlying84 rfl Try.sizeOf3
instance : Fld Try.prog 84 5 5 := Fld.of (z := 0) (t := 61) Try.underlying84 rfl Try.sizeOf61
instance : Places Try.prog 84 [(0, 1), (1, 1), (2, 1), (3, 1), (4, 1), (5, 1)] := ⟨_, Try.underlying84, fun w => by simp [Try.sizeOf2, Try.sizeOf3, Try.sizeOf4, Try.sizeOf61, Try.sizeOf82, Try.sizeOf83]⟩
instance : Fld Try.prog 85 0 0 := Fld.of (z := 0) (t := 82) Try.underlying85 rfl Try.sizeOf82
instance : Fld Try.prog 85 1 1 := Fld.of (z := 0) (t := 83) Try.underlying85 rfl Try.sizeOf83
instance : Fld Try.prog 85 2 2 := Fld.of (z := 0) (t := 4) Try.underlying85 rfl Try.sizeOf4
instance : Fld Try.prog 85 3 3 := Fld.of (z := 0) (t := 2) Try.underlying85 rfl Try.sizeOf2
instance : Fld Try.prog 85 4 4 := Fld.of (z := 0) (t := 3) Try.underlying85 rfl Try.sizeOf3
instance : Fld Try.prog 85 5 5 := Fld.of (z := 0) (t := 61) Try.underlying85 rfl Try.sizeOf61
instance : Places Try.prog 85 [(0, 1), (1, 1), (2, 1), (3, 1), (4, 1), (5, 1)] := ⟨_, Try.underlying85, fun w => by simp [Try.sizeOf2, Try.sizeOf3, Try.sizeOf4, Try.sizeOf61, Try.sizeOf82, Try.sizeOf83]⟩
instance : Fld Try.prog 99 0 0 := Fld.of (z := 0) (t := 67) Try.underlying99 rfl Try.sizeOf67
instance : Fld Try.prog 99 1 1 := Fld.of (z := 0) (t := 3) Try.underlying99 rfl Try.sizeOf3
instance : Fld Try.prog 99 2 2 := Fld.of (z := 0) (t := 29) Try.underlying99 rfl Try.sizeOf29
instance : Places Try.prog 99 [(0, 1), (1, 1), (2, 1)] := ⟨_, Try.underlying99, fun w => by simp [Try.sizeOf29, Try.sizeOf3, Try.sizeOf67]⟩
instance : Fld Try.prog 100 0 0 := Fld.of (z := 0) (t := 67) Try.underlying100 rfl Try.sizeOf67
instance : Fld Try.prog 100 1 1 := Fld.of (z := 0) (t := 3) Try.underlying100 rfl Try.sizeOf3
instance : Fld Try.prog 100 2 2 := Fld.of (z := 0) (t := 29) Try.underlying100 rfl Try.sizeOf29
instance : Places Try.prog 100 [(0, 1), (1, 1), (2, 1)] := ⟨_, Try.underlying100, fun w => by simp [Try.sizeOf29, Try.sizeOf3, Try.sizeOf67]⟩
instance : Fld Try.prog 105 0 0 := Fld.of (z := 2) (t := 28) Try.underlying105 rfl Try.sizeOf28
instance : Places Try.prog 105 [(0, 3)] := ⟨_, Try.underlying105, fun w => by simp [Try.sizeOf28]⟩
instance : Fld Try.prog 106 0 0 := Fld.of (z := 2) (t := 28) Try.underlying106 rfl Try.sizeOf28
instance : Places Try.prog 106 [(0, 3)] := ⟨_, Try.underlying106, fun w => by simp [Try.sizeOf28]⟩
instance : Fld Try.prog 152 0 0 := Fld.of (z := 0) (t := 17) Try.underlying152 rfl Try.sizeOf17
instance : Fld Try.prog 152 1 1 := Fld.of (z := 0) (t := 17) Try.underlying152 rfl Try.sizeOf17
instance : Fld Try.prog 152 2 2 := Fld.of (z := 0) (t := 17) Try.underlying152 rfl Try.sizeOf17
instance : Fld Try.prog 152 3 3 := Fld.of (z := 0) (t := 9) Try.underlying152 rfl Try.sizeOf9
instance : Places Try.prog 152 [(0, 1), (1, 1), (2, 1), (3, 1)] := ⟨_, Try.underlying152, fun w => by simp [Try.sizeOf17, Try.sizeOf9]⟩
instance : Fld Try.prog 153 0 0 := Fld.of (z := 0) (t := 17) Try.underlying153 rfl Try.sizeOf17
instance : Fld Try.prog 153 1 1 := Fld.of (z := 0) (t := 17) Try.underlying153 rfl Try.sizeOf17
instance : Fld Try.prog 153 2 2 := Fld.of (z := 0) (t := 17) Try.underlying153 rfl Try.sizeOf17
instance : Fld Try.prog 153 3 3 := Fld.of (z := 0) (t := 9) Try.underlying153 rfl Try.sizeOf9
instance : Places Try.prog 153 [(0, 1), (1, 1), (2, 1), (3, 1)] := ⟨_, Try.underlying153, fun w => by simp [Try.sizeOf17, Try.sizeOf9]⟩
instance : Places Try.prog 155 [(0, 0)] := ⟨_, Try.underlying155, fun w => by simp [Try.sizeOf154]⟩
instance : Places Try.prog 156 [(0, 0)] := ⟨_, Try.underlying156, fun w => by simp [Try.sizeOf154]⟩
instance : Fld Try.prog 163 0 0 := Fld.of (z := 0) (t := 12) Try.underlying163 rfl Try.sizeOf12
instance : Fld Try.prog 163 1 1 := Fld.of (z := 0) (t := 12) Try.underlying163 rfl Try.sizeOf12
instance : Fld Try.prog 163 2 2 := Fld.of (z := 0) (t := 95) Try.underlying163 rfl Try.sizeOf95
instance : Fld Try.prog 163 3 3 := Fld.of (z := 0) (t := 157) Try.underlying163 rfl Try.sizeOf157
instance : Fld Try.prog 163 4 4 := Fld.of (z := 0) (t := 5) Try.underlying163 rfl Try.sizeOf5
instance : Fld Try.prog 163 5 5 := Fld.of (z := 0) (t := 5) Try.underlying163 rfl Try.sizeOf5
instance : Fld Try.prog 163 6 6 := Fld.of (z := 0) (t := 158) Try.underlying163 rfl Try.sizeOf158
instance : Fld Try.prog 163 7 7 := Fld.of (z := 0) (t := 159) Try.underlying163 rfl Try.sizeOf159
instance : Fld Try.prog 163 8 8 := Fld.of (z := 0) (t := 160) Try.underlying163 rfl Try.sizeOf160
instance : Fld Try.prog 163 9 9 := Fld.of (z := 0) (t := 161) Try.underlying163 rfl Try.sizeOf161
instance : Fld Try.prog 163 10 10 := Fld.of (z := 0) (t := 162) Try.underlying163 rfl Try.sizeOf162
instance : Places Try.prog 163 [(0, 1), (1, 1), (2, 1), (3, 1), (4, 1), (5, 1), (6, 1), (7, 1), (8, 1), (9, 1), (10, 1)] := ⟨_, Try.underlying163, fun w => by simp [Try.sizeOf12, Try.sizeOf157, Try.sizeOf158, Try.sizeOf159, Try.sizeOf160, Try.sizeOf161, Try.sizeOf162, Try.sizeOf5, Try.sizeOf95]⟩
instance : Fld Try.prog 164 0 0 := Fld.of (z := 0) (t := 12) Try.underlying164 rfl Try.sizeOf12
instance : Fld Try.prog 164 1 1 := Fld.of (z := 0) (t := 12) Try.underlying164 rfl Try.sizeOf12
instance : Fld Try.prog 164 2 2 := Fld.of (z := 0) (t := 95) Try.underlying164 rfl Try.sizeOf95
instance : Fld Try.prog 164 3 3 := Fld.of (z := 0) (t := 157) Try.underlying164 rfl Try.sizeOf157
instance : Fld Try.prog 164 4 4 := Fld.of (z := 0) (t := 5) Try.underlying164 rfl Try.sizeOf5
instance : Fld Try.prog 164 5 5 := Fld.of (z := 0) (t := 5) Try.underlying164 rfl Try.sizeOf5
instance : Fld Try.prog 164 6 6 := Fld.of (z := 0) (t := 158) Try.underlying164 rfl Try.sizeOf158
instance : Fld Try.prog 164 7 7 := Fld.of (z := 0) (t := 159) Try.underlying164 rfl Try.sizeOf159
instance : Fld Try.prog 164 8 8 := Fld.of (z := 0) (t := 160) Try.underlying164 rfl Try.sizeOf160
instance : Fld Try.prog 164 9 9 := Fld.of (z := 0) (t := 161) Try.underlying164 rfl Try.sizeOf161
instance : Fld Try.prog 164 10 10 := Fld.of (z := 0) (t := 162) Try.underlying164 rfl Try.sizeOf162
instance : Places Try.prog 164 [(0, 1), (1, 1), (2, 1), (3, 1), (4, 1), (5, 1), (6, 1), (7, 1), (8, 1), (9, 1), (10, 1)] := ⟨_, Try.underlying164, fun w => by simp [Try.sizeOf12, Try.sizeOf157, Try.sizeOf158, Try.sizeOf159, Try.sizeOf160, Try.sizeOf161, Try.sizeOf162, Try.sizeOf5, Try.sizeOf95]⟩
instance : Elem Try.prog 24 50 3 40 (Go.Value.agg #[Go.Value.string { data := #[] }, Go.Value.string { data := #[] }, Go.Value.int Go.IntKind.i64 0]) := ⟨Try.underlying24, by kernel_rfl⟩
instance : Elem Try.prog 40 34 1 8 (Go.Value.pointer Option.none) := ⟨Try.underlying40, by kernel_rfl⟩
instance : Elem Try.prog 54 28 3 40 (Go.Value.agg #[Go.Value.int Go.IntKind.i64 0, Go.Value.slice Option.none 0 0, Go.Value.bool Bool.false]) := ⟨Try.underlying54, by kernel_rfl⟩
instance : Elem Try.prog 61 4 1 1 (Go.Value.bool Bool.false) := ⟨Try.underlying61, by kernel_rfl⟩
instance : Elem Try.prog 67 5 1 1 (Go.Value.int Go.IntKind.u8 0) := ⟨Try.underlying67, by kernel_rfl⟩
instance : Elem Try.prog 82 67 1 24 (Go.Value.slice Option.none 0 0) := ⟨Try.underlying82, by kernel_rfl⟩
instance : Elem Try.prog 111 3 1 8 (Go.Value.int Go.IntKind.i64 0) := ⟨Try.underlying111, by kernel_rfl⟩
instance : Elem Try.prog 170 29 1 8 (Go.Value.int Go.IntKind.i64 0) := ⟨Try.underlying170, by kernel_rfl⟩
end Go.Gsl
