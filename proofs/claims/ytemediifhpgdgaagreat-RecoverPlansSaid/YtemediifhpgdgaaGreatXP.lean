/- The types of this program, as a run by the kernel needs them. Printed by tools/gen_pg.py. -/
import Derived.Test.YtemediifhpgdgaaGreatProg
import Derived.Test.YtemediifhpgdgaaGreatXD
import Derived.Test.YtemediifhpgdgaaGreatGI
import Derived.Test.YtemediifhpgdgaaGreatGB
namespace Go.Gsl
set_option linter.unusedVariables false
open Go.Proofs
set_option maxRecDepth 100000
def Vx2 : XT := ⟨.int .i64, 1, 8, [Go.Value.int Go.IntKind.i64 0], false⟩
theorem Vxt2 : XTok Tryz.prog 2 Vx2 := XTok.mk' (by exact Tryz.underlying2) rfl (by exact Tryz.sizeOf2) (by exact Tryz.zeroValue2) (by kernel_rfl) (by kernel_rfl) rfl (by exact Tryz.isAgg2) (by kernel_rfl)
def Vx3 : XT := ⟨.int .i64, 1, 8, [Go.Value.int Go.IntKind.i64 0], false⟩
theorem Vxt3 : XTok Tryz.prog 3 Vx3 := XTok.mk' (by exact Tryz.underlying3) rfl (by exact Tryz.sizeOf3) (by exact Tryz.zeroValue3) (by kernel_rfl) (by kernel_rfl) rfl (by exact Tryz.isAgg3) (by kernel_rfl)
def Vx4 : XT := ⟨.bool, 1, 1, [Go.Value.bool Bool.false], false⟩
theorem Vxt4 : XTok Tryz.prog 4 Vx4 := XTok.mk' (by exact Tryz.underlying4) rfl (by exact Tryz.sizeOf4) (by exact Tryz.zeroValue4) (by kernel_rfl) (by kernel_rfl) rfl (by exact Tryz.isAgg4) (by kernel_rfl)
def Vx5 : XT := ⟨.int .u8, 1, 1, [Go.Value.int Go.IntKind.u8 0], false⟩
theorem Vxt5 : XTok Tryz.prog 5 Vx5 := XTok.mk' (by exact Tryz.underlying5) rfl (by exact Tryz.sizeOf5) (by exact Tryz.zeroValue5) (by kernel_rfl) (by kernel_rfl) rfl (by exact Tryz.isAgg5) (by kernel_rfl)
def Vx9 : XT := ⟨.str, 1, 16, [Go.Value.string { data := #[] }], false⟩
theorem Vxt9 : XTok Tryz.prog 9 Vx9 := XTok.mk' (by exact Tryz.underlying9) rfl (by exact Tryz.sizeOf9) (by exact Tryz.zeroValue9) (by kernel_rfl) (by kernel_rfl) rfl (by exact Tryz.isAgg9) (by kernel_rfl)
def Vx20 : XT := ⟨.ifc, 1, 16, [Go.Value.nilIface], false⟩
theorem Vxt20 : XTok Tryz.prog 20 Vx20 := XTok.mk' (by exact Tryz.underlying20) ⟨_, rfl⟩ (by exact Tryz.sizeOf20) (by exact Tryz.zeroValue20) (by kernel_rfl) (by kernel_rfl) rfl (by exact Tryz.isAgg20) (by kernel_rfl)
def Vx23 : XT := ⟨.st [(0, 1, false), (1, 1, false)], 2, 16, [Go.Value.int Go.IntKind.i64 0, Go.Value.int Go.IntKind.i64 0], true⟩
theorem Vfd23 : FldsOK Tryz.prog [(0, 1, false), (1, 1, false)] [{ name := "From", type := 3, offset := 0, embedded := Bool.false, tag := "", pkgPath := "", byteOffset := 0 }, { name := "Chunks", type := 3, offset := 1, embedded := Bool.false, tag := "", pkgPath := "", byteOffset := 8 }] := (FldsOK.cons rfl Tryz.sizeOf3 Tryz.isAgg3 (FldsOK.cons rfl Tryz.sizeOf3 Tryz.isAgg3 FldsOK.nil))
theorem Vxt23 : XTok Tryz.prog 23 Vx23 := XTok.mk' (by exact Tryz.underlying23) (KdOK.st Vfd23) (by exact Tryz.sizeOf23) (by exact Tryz.zeroValue23) (by kernel_rfl) (by kernel_rfl) rfl (by exact Tryz.isAgg23) (by kernel_rfl)
def Vx24 : XT := ⟨.arr 2 23, 4, 32, [Go.Value.int Go.IntKind.i64 0, Go.Value.int Go.IntKind.i64 0, Go.Value.int Go.IntKind.i64 0, Go.Value.int Go.IntKind.i64 0], true⟩
theorem Vxt24 : XTok Tryz.prog 24 Vx24 := XTok.mk' (by exact Tryz.underlying24) rfl (by exact Tryz.sizeOf24) (by exact Tryz.zeroValue24) (by kernel_rfl) (by kernel_rfl) rfl (by exact Tryz.isAgg24) (by kernel_rfl)
def Vx26 : XT := ⟨.st [(0, 1, false), (1, 1, false), (2, 1, false), (3, 4, true)], 7, 56, [Go.Value.int Go.IntKind.i64 0, Go.Value.int Go.IntKind.i64 0, Go.Value.int Go.IntKind.i64 0, Go.Value.int Go.IntKind.i64 0, Go.Value.int Go.IntKind.i64 0, Go.Value.int Go.IntKind.i64 0, Go.Value.int Go.IntKind.i64 0], true⟩
theorem Vfd26 : FldsOK Tryz.prog [(0, 1, false), (1, 1, false), (2, 1, false), (3, 4, true)] [{ name := "Master", type := 3, offset := 0, embedded := Bool.false, tag := "", pkgPath := "", byteOffset := 0 }, { name := "Log", type := 3, offset := 1, embedded := Bool.false, tag := "", pkgPath := "", byteOffset := 8 }, { name := "Sectors", type := 3, offset := 2, embedded := Bool.false, tag := "", pkgPath := "", byteOffset := 16 }, { name := "Areas", type := 24, offset := 3, embedded := Bool.false, tag := "", pkgPath := "", byteOffset := 24 }] := (FldsOK.cons rfl Tryz.sizeOf3 Tryz.isAgg3 (FldsOK.cons rfl Tryz.sizeOf3 Tryz.isAgg3 (FldsOK.cons rfl Tryz.sizeOf3 Tryz.isAgg3 (FldsOK.cons rfl Tryz.sizeOf24 Tryz.isAgg24 FldsOK.nil))))
theorem Vxt26 : XTok Tryz.prog 26 Vx26 := XTok.mk' (by exact Tryz.underlying26) (KdOK.st Vfd26) (by exact Tryz.sizeOf26) (by exact Tryz.zeroValue26) (by kernel_rfl) (by kernel_rfl) rfl (by exact Tryz.isAgg26) (by kernel_rfl)
def Vx29 : XT := ⟨.int .i64, 1, 8, [Go.Value.int Go.IntKind.i64 0], false⟩
theorem Vxt29 : XTok Tryz.prog 29 Vx29 := XTok.mk' (by exact Tryz.underlying29) rfl (by exact Tryz.sizeOf29) (by exact Tryz.zeroValue29) (by kernel_rfl) (by kernel_rfl) rfl (by exact Tryz.isAgg29) (by kernel_rfl)
def Vx36 : XT := ⟨.st [(0, 1, false), (1, 1, false), (2, 1, false), (3, 1, false)], 4, 32, [Go.Value.int Go.IntKind.i64 0, Go.Value.int Go.IntKind.i64 0, Go.Value.int Go.IntKind.i64 0, Go.Value.int Go.IntKind.i64 0], true⟩
theorem Vfd36 : FldsOK Tryz.prog [(0, 1, false), (1, 1, false), (2, 1, false), (3, 1, false)] [{ name := "Sector", type := 2, offset := 0, embedded := Bool.false, tag := "", pkgPath := "", byteOffset := 0 }, { name := "Offset", type := 3, offset := 1, embedded := Bool.false, tag := "", pkgPath := "", byteOffset := 8 }, { name := "Number", type := 2, offset := 2, embedded := Bool.false, tag := "", pkgPath := "", byteOffset := 16 }, { name := "Run", type := 2, offset := 3, embedded := Bool.false, tag := "", pkgPath := "", byteOffset := 24 }] := (FldsOK.cons rfl Tryz.sizeOf2 Tryz.isAgg2 (FldsOK.cons rfl Tryz.sizeOf3 Tryz.isAgg3 (FldsOK.cons rfl Tryz.sizeOf2 Tryz.isAgg2 (FldsOK.cons rfl Tryz.sizeOf2 Tryz.isAgg2 FldsOK.nil))))
theorem Vxt36 : XTok Tryz.prog 36 Vx36 := XTok.mk' (by exact Tryz.underlying36) (KdOK.st Vfd36) (by exact Tryz.sizeOf36) (by exact Tryz.zeroValue36) (by kernel_rfl) (by kernel_rfl) rfl (by exact Tryz.isAgg36) (by kernel_rfl)
def Vx38 : XT := ⟨.st [(0, 1, false), (1, 1, false), (2, 1, false), (3, 1, false), (4, 4, true)], 8, 64, [Go.Value.int Go.IntKind.i64 0, Go.Value.int Go.IntKind.i64 0, Go.Value.int Go.IntKind.i64 0, Go.Value.int Go.IntKind.i64 0, Go.Value.int Go.IntKind.i64 0, Go.Value.int Go.IntKind.i64 0, Go.Value.int Go.IntKind.i64 0, Go.Value.int Go.IntKind.i64 0], true⟩
theorem Vfd38 : FldsOK Tryz.prog [(0, 1, false), (1, 1, false), (2, 1, false), (3, 1, false), (4, 4, true)] [{ name := "Seq", type := 2, offset := 0, embedded := Bool.false, tag := "", pkgPath := "", byteOffset := 0 }, { name := "Area", type := 3, offset := 1, embedded := Bool.false, tag := "", pkgPath := "", byteOffset := 8 }, { name := "Chunks", type := 3, offset := 2, embedded := Bool.false, tag := "", pkgPath := "", byteOffset := 16 }, { name := "TS", type := 2, offset := 3, embedded := Bool.false, tag := "", pkgPath := "", byteOffset := 24 }, { name := "Mark", type := 36, offset := 4, embedded := Bool.false, tag := "", pkgPath := "", byteOffset := 32 }] := (FldsOK.cons rfl Tryz.sizeOf2 Tryz.isAgg2 (FldsOK.cons rfl Tryz.sizeOf3 Tryz.isAgg3 (FldsOK.cons rfl Tryz.sizeOf3 Tryz.isAgg3 (FldsOK.cons rfl Tryz.sizeOf2 Tryz.isAgg2 (FldsOK.cons rfl Tryz.sizeOf36 Tryz.isAgg36 FldsOK.nil)))))
theorem Vxt38 : XTok Tryz.prog 38 Vx38 := XTok.mk' (by exact Tryz.underlying38) (KdOK.st Vfd38) (by exact Tryz.sizeOf38) (by exact Tryz.zeroValue38) (by kernel_rfl) (by kernel_rfl) rfl (by exact Tryz.isAgg38) (by kernel_rfl)
def Vx39 : XT := ⟨.sl 118, 1, 24, [Go.Value.slice Option.none 0 0], false⟩
theorem Vxt39 : XTok Tryz.prog 39 Vx39 := XTok.mk' (by exact Tryz.underlying39) rfl (by exact Tryz.sizeOf39) (by exact Tryz.zeroValue39) (by kernel_rfl) (by kernel_rfl) rfl (by exact Tryz.isAgg39) (by kernel_rfl)
def Vx41 : XT := ⟨.st [(0, 8, true), (8, 1, false), (9, 1, false), (10, 1, false)], 11, 104, [Go.Value.int Go.IntKind.i64 0, Go.Value.int Go.IntKind.i64 0, Go.Value.int Go.IntKind.i64 0, Go.Value.int Go.IntKind.i64 0, Go.Value.int Go.IntKind.i64 0, Go.Value.int Go.IntKind.i64 0, Go.Value.int Go.IntKind.i64 0, Go.Value.int Go.IntKind.i64 0, Go.Value.slice Option.none 0 0, Go.Value.int Go.IntKind.i64 0, Go.Value.int Go.IntKind.i64 0], true⟩
theorem Vfd41 : FldsOK Tryz.prog [(0, 8, true), (8, 1, false), (9, 1, false), (10, 1, false)] [{ name := "Master", type := 38, offset := 0, embedded := Bool.false, tag := "", pkgPath := "", byteOffset := 0 }, { name := "Pairs", type := 39, offset := 8, embedded := Bool.false, tag := "", pkgPath := "", byteOffset := 64 }, { name := "TS", type := 2, offset := 9, embedded := Bool.false, tag := "", pkgPath := "", byteOffset := 88 }, { name := "Redone", type := 3, offset := 10, embedded := Bool.false, tag := "", pkgPath := "", byteOffset := 96 }] := (FldsOK.cons rfl Tryz.sizeOf38 Tryz.isAgg38 (FldsOK.cons rfl Tryz.sizeOf39 Tryz.isAgg39 (FldsOK.cons rfl Tryz.sizeOf2 Tryz.isAgg2 (FldsOK.cons rfl Tryz.sizeOf3 Tryz.isAgg3 FldsOK.nil))))
theorem Vxt41 : XTok Tryz.prog 41 Vx41 := XTok.mk' (by exact Tryz.underlying41) (KdOK.st Vfd41) (by exact Tryz.sizeOf41) (by exact Tryz.zeroValue41) (by kernel_rfl) (by kernel_rfl) rfl (by exact Tryz.isAgg41) (by kernel_rfl)
def Vx42 : XT := ⟨.ptr 111, 1, 8, [Go.Value.pointer Option.none], false⟩
theorem Vxt42 : XTok Tryz.prog 42 Vx42 := XTok.mk' (by exact Tryz.underlying42) rfl (by exact Tryz.sizeOf42) (by exact Tryz.zeroValue42) (by kernel_rfl) (by kernel_rfl) rfl (by exact Tryz.isAgg42) (by kernel_rfl)
def Vx49 : XT := ⟨.ptr 102, 1, 8, [Go.Value.pointer Option.none], false⟩
theorem Vxt49 : XTok Tryz.prog 49 Vx49 := XTok.mk' (by exact Tryz.underlying49) rfl (by exact Tryz.sizeOf49) (by exact Tryz.zeroValue49) (by kernel_rfl) (by kernel_rfl) rfl (by exact Tryz.isAgg49) (by kernel_rfl)
def Vx53 : XT := ⟨.sl 5, 1, 24, [Go.Value.slice Option.none 0 0], false⟩
theorem Vxt53 : XTok Tryz.prog 53 Vx53 := XTok.mk' (by exact Tryz.underlying53) rfl (by exact Tryz.sizeOf53) (by exact Tryz.zeroValue53) (by kernel_rfl) (by kernel_rfl) rfl (by exact Tryz.isAgg53) (by kernel_rfl)
def Vx57 : XT := ⟨.st [(0, 1, false), (1, 1, false), (2, 1, false)], 3, 40, [Go.Value.string { data := #[] }, Go.Value.string { data := #[] }, Go.Value.bool Bool.false], true⟩
theorem Vfd57 : FldsOK Tryz.prog [(0, 1, false), (1, 1, false), (2, 1, false)] [{ name := "Key", type := 9, offset := 0, embedded := Bool.false, tag := "", pkgPath := "", byteOffset := 0 }, { name := "Value", type := 9, offset := 1, embedded := Bool.false, tag := "", pkgPath := "", byteOffset := 16 }, { name := "Del", type := 4, offset := 2, embedded := Bool.false, tag := "", pkgPath := "", byteOffset := 32 }] := (FldsOK.cons rfl Tryz.sizeOf9 Tryz.isAgg9 (FldsOK.cons rfl Tryz.sizeOf9 Tryz.isAgg9 (FldsOK.cons rfl Tryz.sizeOf4 Tryz.isAgg4 FldsOK.nil)))
theorem Vxt57 : XTok Tryz.prog 57 Vx57 := XTok.mk' (by exact Tryz.underlying57) (KdOK.st Vfd57) (by exact Tryz.sizeOf57) (by exact Tryz.zeroValue57) (by kernel_rfl) (by kernel_rfl) rfl (by exact Tryz.isAgg57) (by kernel_rfl)
def Vx58 : XT := ⟨.sl 57, 1, 24, [Go.Value.slice Option.none 0 0], false⟩
theorem Vxt58 : XTok Tryz.prog 58 Vx58 := XTok.mk' (by exact Tryz.underlying58) rfl (by exact Tryz.sizeOf58) (by exact Tryz.zeroValue58) (by kernel_rfl) (by kernel_rfl) rfl (by exact Tryz.isAgg58) (by kernel_rfl)
def Vx60 : XT := ⟨.st [(0, 1, false), (1, 1, false)], 2, 32, [Go.Value.int Go.IntKind.i64 0, Go.Value.slice Option.none 0 0], true⟩
theorem Vfd60 : FldsOK Tryz.prog [(0, 1, false), (1, 1, false)] [{ name := "TS", type := 2, offset := 0, embedded := Bool.false, tag := "", pkgPath := "", byteOffset := 0 }, { name := "Writes", type := 58, offset := 1, embedded := Bool.false, tag := "", pkgPath := "", byteOffset := 8 }] := (FldsOK.cons rfl Tryz.sizeOf2 Tryz.isAgg2 (FldsOK.cons rfl Tryz.sizeOf58 Tryz.isAgg58 FldsOK.nil))
theorem Vxt60 : XTok Tryz.prog 60 Vx60 := XTok.mk' (by exact Tryz.underlying60) (KdOK.st Vfd60) (by exact Tryz.sizeOf60) (by exact Tryz.zeroValue60) (by kernel_rfl) (by kernel_rfl) rfl (by exact Tryz.isAgg60) (by kernel_rfl)
def Vx66 : XT := ⟨.st [(0, 1, false), (1, 1, false)], 2, 16, [Go.Value.int Go.IntKind.i64 0, Go.Value.int Go.IntKind.i64 0], true⟩
theorem Vfd66 : FldsOK Tryz.prog [(0, 1, false), (1, 1, false)] [{ name := "from", type := 3, offset := 0, embedded := Bool.false, tag := "", pkgPath := "cresset/recover", byteOffset := 0 }, { name := "many", type := 3, offset := 1, embedded := Bool.false, tag := "", pkgPath := "cresset/recover", byteOffset := 8 }] := (FldsOK.cons rfl Tryz.sizeOf3 Tryz.isAgg3 (FldsOK.cons rfl Tryz.sizeOf3 Tryz.isAgg3 FldsOK.nil))
theorem Vxt66 : XTok Tryz.prog 66 Vx66 := XTok.mk' (by exact Tryz.underlying66) (KdOK.st Vfd66) (by exact Tryz.sizeOf66) (by exact Tryz.zeroValue66) (by kernel_rfl) (by kernel_rfl) rfl (by exact Tryz.isAgg66) (by kernel_rfl)
def Vx67 : XT := ⟨.sl 66, 1, 24, [Go.Value.slice Option.none 0 0], false⟩
theorem Vxt67 : XTok Tryz.prog 67 Vx67 := XTok.mk' (by exact Tryz.underlying67) rfl (by exact Tryz.sizeOf67) (by exact Tryz.zeroValue67) (by kernel_rfl) (by kernel_rfl) rfl (by exact Tryz.isAgg67) (by kernel_rfl)
def Vx79 : XT := ⟨.sl 60, 1, 24, [Go.Value.slice Option.none 0 0], false⟩
theorem Vxt79 : XTok Tryz.prog 79 Vx79 := XTok.mk' (by exact Tryz.underlying79) rfl (by exact Tryz.sizeOf79) (by exact Tryz.zeroValue79) (by kernel_rfl) (by kernel_rfl) rfl (by exact Tryz.isAgg79) (by kernel_rfl)
def Vx90 : XT := ⟨.ptr 159, 1, 8, [Go.Value.pointer Option.none], false⟩
theorem Vxt90 : XTok Tryz.prog 90 Vx90 := XTok.mk' (by exact Tryz.underlying90) rfl (by exact Tryz.sizeOf90) (by exact Tryz.zeroValue90) (by kernel_rfl) (by kernel_rfl) rfl (by exact Tryz.isAgg90) (by kernel_rfl)
def Vx98 : XT := ⟨.sl 53, 1, 24, [Go.Value.slice Option.none 0 0], false⟩
theorem Vxt98 : XTok Tryz.prog 98 Vx98 := XTok.mk' (by exact Tryz.underlying98) rfl (by exact Tryz.sizeOf98) (by exact Tryz.zeroValue98) (by kernel_rfl) (by kernel_rfl) rfl (by exact Tryz.isAgg98) (by kernel_rfl)
def Vx99 : XT := ⟨.map 3 53, 1, 8, [Go.Value.map Option.none], false⟩
theorem Vxt99 : XTok Tryz.prog 99 Vx99 := XTok.mk' (by exact Tryz.underlying99) rfl (by exact Tryz.sizeOf99) (by exact Tryz.zeroValue99) (by kernel_rfl) (by kernel_rfl) rfl (by exact Tryz.isAgg99) (by kernel_rfl)
def Vx100 : XT := ⟨.sl 4, 1, 24, [Go.Value.slice Option.none 0 0], false⟩
theorem Vxt100 : XTok Tryz.prog 100 Vx100 := XTok.mk' (by exact Tryz.underlying100) rfl (by exact Tryz.sizeOf100) (by exact Tryz.zeroValue100) (by kernel_rfl) (by kernel_rfl) rfl (by exact Tryz.isAgg100) (by kernel_rfl)
def Vx102 : XT := ⟨.st [(0, 1, false), (1, 1, false), (2, 1, false), (3, 1, false), (4, 1, false), (5, 1, false)], 6, 80, [Go.Value.slice Option.none 0 0, Go.Value.map Option.none, Go.Value.bool Bool.false, Go.Value.int Go.IntKind.i64 0, Go.Value.int Go.IntKind.i64 0, Go.Value.slice Option.none 0 0], true⟩
theorem Vfd102 : FldsOK Tryz.prog [(0, 1, false), (1, 1, false), (2, 1, false), (3, 1, false), (4, 1, false), (5, 1, false)] [{ name := "sure", type := 98, offset := 0, embedded := Bool.false, tag := "", pkgPath := "cresset/disk", byteOffset := 0 }, { name := "dirty", type := 99, offset := 1, embedded := Bool.false, tag := "", pkgPath := "cresset/disk", byteOffset := 24 }, { name := "down", type := 4, offset := 2, embedded := Bool.false, tag := "", pkgPath := "cresset/disk", byteOffset := 32 }, { name := "calls", type := 2, offset := 3, embedded := Bool.false, tag := "", pkgPath := "cresset/disk", byteOffset := 40 }, { name := "fuse", type := 3, offset := 4, embedded := Bool.false, tag := "", pkgPath := "cresset/disk", byteOffset := 48 }, { name := "keep", type := 100, offset := 5, embedded := Bool.false, tag := "", pkgPath := "cresset/disk", byteOffset := 56 }] := (FldsOK.cons rfl Tryz.sizeOf98 Tryz.isAgg98 (FldsOK.cons rfl Tryz.sizeOf99 Tryz.isAgg99 (FldsOK.cons rfl Tryz.sizeOf4 Tryz.isAgg4 (FldsOK.cons rfl Tryz.sizeOf2 Tryz.isAgg2 (FldsOK.cons rfl Tryz.sizeOf3 Tryz.isAgg3 (FldsOK.cons rfl Tryz.sizeOf100 Tryz.isAgg100 FldsOK.nil))))))
theorem Vxt102 : XTok Tryz.prog 102 Vx102 := XTok.mk' (by exact Tryz.underlying102) (KdOK.st Vfd102) (by exact Tryz.sizeOf102) (by exact Tryz.zeroValue102) (by kernel_rfl) (by kernel_rfl) rfl (by exact Tryz.isAgg102) (by kernel_rfl)
def Vx105 : XT := ⟨.st [(0, 2, true)], 2, 32, [Go.Value.int Go.IntKind.i64 0, Go.Value.slice Option.none 0 0], true⟩
theorem Vfd105 : FldsOK Tryz.prog [(0, 2, true)] [{ name := "Commit", type := 60, offset := 0, embedded := Bool.true, tag := "", pkgPath := "", byteOffset := 0 }] := (FldsOK.cons rfl Tryz.sizeOf60 Tryz.isAgg60 FldsOK.nil)
theorem Vxt105 : XTok Tryz.prog 105 Vx105 := XTok.mk' (by exact Tryz.underlying105) (KdOK.st Vfd105) (by exact Tryz.sizeOf105) (by exact Tryz.zeroValue105) (by kernel_rfl) (by kernel_rfl) rfl (by exact Tryz.isAgg105) (by kernel_rfl)
def Vx108 : XT := ⟨.sl 114, 1, 24, [Go.Value.slice Option.none 0 0], false⟩
theorem Vxt108 : XTok Tryz.prog 108 Vx108 := XTok.mk' (by exact Tryz.underlying108) rfl (by exact Tryz.sizeOf108) (by exact Tryz.zeroValue108) (by kernel_rfl) (by kernel_rfl) rfl (by exact Tryz.isAgg108) (by kernel_rfl)
def Vx109 : XT := ⟨.sl 2, 1, 24, [Go.Value.slice Option.none 0 0], false⟩
theorem Vxt109 : XTok Tryz.prog 109 Vx109 := XTok.mk' (by exact Tryz.underlying109) rfl (by exact Tryz.sizeOf109) (by exact Tryz.zeroValue109) (by kernel_rfl) (by kernel_rfl) rfl (by exact Tryz.isAgg109) (by kernel_rfl)
def Vx111 : XT := ⟨.st [(0, 1, false), (1, 1, false), (2, 1, false), (3, 1, false), (4, 1, false), (5, 1, false), (6, 1, false), (7, 1, false), (8, 4, true), (12, 1, false), (13, 1, false), (14, 1, false), (15, 1, false)], 16, 176, [Go.Value.pointer Option.none, Go.Value.int Go.IntKind.i64 0, Go.Value.int Go.IntKind.i64 0, Go.Value.int Go.IntKind.i64 0, Go.Value.int Go.IntKind.i64 0, Go.Value.int Go.IntKind.i64 0, Go.Value.slice Option.none 0 0, Go.Value.slice Option.none 0 0, Go.Value.int Go.IntKind.i64 0, Go.Value.int Go.IntKind.i64 0, Go.Value.int Go.IntKind.i64 0, Go.Value.int Go.IntKind.i64 0, Go.Value.slice Option.none 0 0, Go.Value.int Go.IntKind.i64 0, Go.Value.int Go.IntKind.i64 0, Go.Value.bool Bool.false], true⟩
theorem Vfd111 : FldsOK Tryz.prog [(0, 1, false), (1, 1, false), (2, 1, false), (3, 1, false), (4, 1, false), (5, 1, false), (6, 1, false), (7, 1, false), (8, 4, true), (12, 1, false), (13, 1, false), (14, 1, false), (15, 1, false)] [{ name := "d", type := 49, offset := 0, embedded := Bool.false, tag := "", pkgPath := "cresset/wal", byteOffset := 0 }, { name := "from", type := 3, offset := 1, embedded := Bool.false, tag := "", pkgPath := "cresset/wal", byteOffset := 8 }, { name := "sectors", type := 3, offset := 2, embedded := Bool.false, tag := "", pkgPath := "cresset/wal", byteOffset := 16 }, { name := "run", type := 2, offset := 3, embedded := Bool.false, tag := "", pkgPath := "cresset/wal", byteOffset := 24 }, { name := "began", type := 2, offset := 4, embedded := Bool.false, tag := "", pkgPath := "cresset/wal", byteOffset := 32 }, { name := "base", type := 2, offset := 5, embedded := Bool.false, tag := "", pkgPath := "cresset/wal", byteOffset := 40 }, { name := "row", type := 53, offset := 6, embedded := Bool.false, tag := "", pkgPath := "cresset/wal", byteOffset := 48 }, { name := "runs", type := 109, offset := 7, embedded := Bool.false, tag := "", pkgPath := "cresset/wal", byteOffset := 72 }, { name := "first", type := 36, offset := 8, embedded := Bool.false, tag := "", pkgPath := "cresset/wal", byteOffset := 96 }, { name := "l", type := 108, offset := 12, embedded := Bool.false, tag := "", pkgPath := "cresset/wal", byteOffset := 128 }, { name := "sure", type := 2, offset := 13, embedded := Bool.false, tag := "", pkgPath := "cresset/wal", byteOffset := 152 }, { name := "flushed", type := 2, offset := 14, embedded := Bool.false, tag := "", pkgPath := "cresset/wal", byteOffset := 160 }, { name := "dirty", type := 4, offset := 15, embedded := Bool.false, tag := "", pkgPath := "cresset/wal", byteOffset := 168 }] := (FldsOK.cons rfl Tryz.sizeOf49 Tryz.isAgg49 (FldsOK.cons rfl Tryz.sizeOf3 Tryz.isAgg3 (FldsOK.cons rfl Tryz.sizeOf3 Tryz.isAgg3 (FldsOK.cons rfl Tryz.sizeOf2 Tryz.isAgg2 (FldsOK.cons rfl Tryz.sizeOf2 Tryz.isAgg2 (FldsOK.cons rfl Tryz.sizeOf2 Tryz.isAgg2 (FldsOK.cons rfl Tryz.sizeOf53 Tryz.isAgg53 (FldsOK.cons rfl Tryz.sizeOf109 Tryz.isAgg109 (FldsOK.cons rfl Tryz.sizeOf36 Tryz.isAgg36 (FldsOK.cons rfl Tryz.sizeOf108 Tryz.isAgg108 (FldsOK.cons rfl Tryz.sizeOf2 Tryz.isAgg2 (FldsOK.cons rfl Tryz.sizeOf2 Tryz.isAgg2 (FldsOK.cons rfl Tryz.sizeOf4 Tryz.isAgg4 FldsOK.nil)))))))))))))
theorem Vxt111 : XTok Tryz.prog 111 Vx111 := XTok.mk' (by exact Tryz.underlying111) (KdOK.st Vfd111) (by exact Tryz.sizeOf111) (by exact Tryz.zeroValue111) (by kernel_rfl) (by kernel_rfl) rfl (by exact Tryz.isAgg111) (by kernel_rfl)
def Vx114 : XT := ⟨.st [(0, 1, false), (1, 1, false)], 2, 32, [Go.Value.int Go.IntKind.i64 0, Go.Value.slice Option.none 0 0], true⟩
theorem Vfd114 : FldsOK Tryz.prog [(0, 1, false), (1, 1, false)] [{ name := "at", type := 2, offset := 0, embedded := Bool.false, tag := "", pkgPath := "cresset/wal", byteOffset := 0 }, { name := "data", type := 53, offset := 1, embedded := Bool.false, tag := "", pkgPath := "cresset/wal", byteOffset := 8 }] := (FldsOK.cons rfl Tryz.sizeOf2 Tryz.isAgg2 (FldsOK.cons rfl Tryz.sizeOf53 Tryz.isAgg53 FldsOK.nil))
theorem Vxt114 : XTok Tryz.prog 114 Vx114 := XTok.mk' (by exact Tryz.underlying114) (KdOK.st Vfd114) (by exact Tryz.sizeOf114) (by exact Tryz.zeroValue114) (by kernel_rfl) (by kernel_rfl) rfl (by exact Tryz.isAgg114) (by kernel_rfl)
def Vx118 : XT := ⟨.st [(0, 1, false), (1, 1, false), (2, 1, false)], 3, 40, [Go.Value.string { data := #[] }, Go.Value.string { data := #[] }, Go.Value.int Go.IntKind.i64 0], true⟩
theorem Vfd118 : FldsOK Tryz.prog [(0, 1, false), (1, 1, false), (2, 1, false)] [{ name := "Key", type := 9, offset := 0, embedded := Bool.false, tag := "", pkgPath := "", byteOffset := 0 }, { name := "Value", type := 9, offset := 1, embedded := Bool.false, tag := "", pkgPath := "", byteOffset := 16 }, { name := "TS", type := 2, offset := 2, embedded := Bool.false, tag := "", pkgPath := "", byteOffset := 32 }] := (FldsOK.cons rfl Tryz.sizeOf9 Tryz.isAgg9 (FldsOK.cons rfl Tryz.sizeOf9 Tryz.isAgg9 (FldsOK.cons rfl Tryz.sizeOf2 Tryz.isAgg2 FldsOK.nil)))
theorem Vxt118 : XTok Tryz.prog 118 Vx118 := XTok.mk' (by exact Tryz.underlying118) (KdOK.st Vfd118) (by exact Tryz.sizeOf118) (by exact Tryz.zeroValue118) (by kernel_rfl) (by kernel_rfl) rfl (by exact Tryz.isAgg118) (by kernel_rfl)
def Vx120 : XT := ⟨.st [(0, 1, false)], 1, 8, [Go.Value.int Go.IntKind.i64 0], true⟩
theorem Vfd120 : FldsOK Tryz.prog [(0, 1, false)] [{ name := "e", type := 29, offset := 0, embedded := Bool.false, tag := "", pkgPath := "cresset/recover", byteOffset := 0 }] := (FldsOK.cons rfl Tryz.sizeOf29 Tryz.isAgg29 FldsOK.nil)
theorem Vxt120 : XTok Tryz.prog 120 Vx120 := XTok.mk' (by exact Tryz.underlying120) (KdOK.st Vfd120) (by exact Tryz.sizeOf120) (by exact Tryz.zeroValue120) (by kernel_rfl) (by kernel_rfl) rfl (by exact Tryz.isAgg120) (by kernel_rfl)
def Vx122 : XT := ⟨.arr 2 38, 16, 128, [Go.Value.int Go.IntKind.i64 0, Go.Value.int Go.IntKind.i64 0, Go.Value.int Go.IntKind.i64 0, Go.Value.int Go.IntKind.i64 0, Go.Value.int Go.IntKind.i64 0, Go.Value.int Go.IntKind.i64 0, Go.Value.int Go.IntKind.i64 0, Go.Value.int Go.IntKind.i64 0, Go.Value.int Go.IntKind.i64 0, Go.Value.int Go.IntKind.i64 0, Go.Value.int Go.IntKind.i64 0, Go.Value.int Go.IntKind.i64 0, Go.Value.int Go.IntKind.i64 0, Go.Value.int Go.IntKind.i64 0, Go.Value.int Go.IntKind.i64 0, Go.Value.int Go.IntKind.i64 0], true⟩
theorem Vxt122 : XTok Tryz.prog 122 Vx122 := XTok.mk' (by exact Tryz.underlying122) rfl (by exact Tryz.sizeOf122) (by exact Tryz.zeroValue122) (by kernel_rfl) (by kernel_rfl) rfl (by exact Tryz.isAgg122) (by kernel_rfl)
def Vx123 : XT := ⟨.arr 2 29, 2, 16, [Go.Value.int Go.IntKind.i64 0, Go.Value.int Go.IntKind.i64 0], true⟩
theorem Vxt123 : XTok Tryz.prog 123 Vx123 := XTok.mk' (by exact Tryz.underlying123) rfl (by exact Tryz.sizeOf123) (by exact Tryz.zeroValue123) (by kernel_rfl) (by kernel_rfl) rfl (by exact Tryz.isAgg123) (by kernel_rfl)
def Vx127 : XT := ⟨.sl 129, 1, 24, [Go.Value.slice Option.none 0 0], false⟩
theorem Vxt127 : XTok Tryz.prog 127 Vx127 := XTok.mk' (by exact Tryz.underlying127) rfl (by exact Tryz.sizeOf127) (by exact Tryz.zeroValue127) (by kernel_rfl) (by kernel_rfl) rfl (by exact Tryz.isAgg127) (by kernel_rfl)
def Vx129 : XT := ⟨.st [(0, 1, false), (1, 1, false), (2, 1, false)], 3, 40, [Go.Value.int Go.IntKind.i64 0, Go.Value.slice Option.none 0 0, Go.Value.bool Bool.false], true⟩
theorem Vfd129 : FldsOK Tryz.prog [(0, 1, false), (1, 1, false), (2, 1, false)] [{ name := "Number", type := 3, offset := 0, embedded := Bool.false, tag := "", pkgPath := "", byteOffset := 0 }, { name := "List", type := 39, offset := 1, embedded := Bool.false, tag := "", pkgPath := "", byteOffset := 8 }, { name := "Last", type := 4, offset := 2, embedded := Bool.false, tag := "", pkgPath := "", byteOffset := 32 }] := (FldsOK.cons rfl Tryz.sizeOf3 Tryz.isAgg3 (FldsOK.cons rfl Tryz.sizeOf39 Tryz.isAgg39 (FldsOK.cons rfl Tryz.sizeOf4 Tryz.isAgg4 FldsOK.nil)))
theorem Vxt129 : XTok Tryz.prog 129 Vx129 := XTok.mk' (by exact Tryz.underlying129) (KdOK.st Vfd129) (by exact Tryz.sizeOf129) (by exact Tryz.zeroValue129) (by kernel_rfl) (by kernel_rfl) rfl (by exact Tryz.isAgg129) (by kernel_rfl)
def Vx133 : XT := ⟨.sl 137, 1, 24, [Go.Value.slice Option.none 0 0], false⟩
theorem Vxt133 : XTok Tryz.prog 133 Vx133 := XTok.mk' (by exact Tryz.underlying133) rfl (by exact Tryz.sizeOf133) (by exact Tryz.zeroValue133) (by kernel_rfl) (by kernel_rfl) rfl (by exact Tryz.isAgg133) (by kernel_rfl)
def Vx137 : XT := ⟨.st [(0, 1, false), (1, 1, false), (2, 1, false), (3, 1, false), (4, 1, false)], 5, 56, [Go.Value.bool Bool.false, Go.Value.int Go.IntKind.i64 0, Go.Value.int Go.IntKind.i64 0, Go.Value.int Go.IntKind.i64 0, Go.Value.slice Option.none 0 0], true⟩
theorem Vfd137 : FldsOK Tryz.prog [(0, 1, false), (1, 1, false), (2, 1, false), (3, 1, false), (4, 1, false)] [{ name := "ok", type := 4, offset := 0, embedded := Bool.false, tag := "", pkgPath := "cresset/wal", byteOffset := 0 }, { name := "seq", type := 2, offset := 1, embedded := Bool.false, tag := "", pkgPath := "cresset/wal", byteOffset := 8 }, { name := "run", type := 2, offset := 2, embedded := Bool.false, tag := "", pkgPath := "cresset/wal", byteOffset := 16 }, { name := "began", type := 2, offset := 3, embedded := Bool.false, tag := "", pkgPath := "cresset/wal", byteOffset := 24 }, { name := "data", type := 53, offset := 4, embedded := Bool.false, tag := "", pkgPath := "cresset/wal", byteOffset := 32 }] := (FldsOK.cons rfl Tryz.sizeOf4 Tryz.isAgg4 (FldsOK.cons rfl Tryz.sizeOf2 Tryz.isAgg2 (FldsOK.cons rfl Tryz.sizeOf2 Tryz.isAgg2 (FldsOK.cons rfl Tryz.sizeOf2 Tryz.isAgg2 (FldsOK.cons rfl Tryz.sizeOf53 Tryz.isAgg53 FldsOK.nil)))))
theorem Vxt137 : XTok Tryz.prog 137 Vx137 := XTok.mk' (by exact Tryz.underlying137) (KdOK.st Vfd137) (by exact Tryz.sizeOf137) (by exact Tryz.zeroValue137) (by kernel_rfl) (by kernel_rfl) rfl (by exact Tryz.isAgg137) (by kernel_rfl)
def Vx145 : XT := ⟨.ptr 147, 1, 8, [Go.Value.pointer Option.none], false⟩
theorem Vxt145 : XTok Tryz.prog 145 Vx145 := XTok.mk' (by exact Tryz.underlying145) rfl (by exact Tryz.sizeOf145) (by exact Tryz.zeroValue145) (by kernel_rfl) (by kernel_rfl) rfl (by exact Tryz.isAgg145) (by kernel_rfl)
def Vx147 : XT := ⟨.st [(0, 1, false), (1, 1, false), (2, 1, false)], 3, 40, [Go.Value.slice Option.none 0 0, Go.Value.int Go.IntKind.i64 0, Go.Value.int Go.IntKind.i64 0], true⟩
theorem Vfd147 : FldsOK Tryz.prog [(0, 1, false), (1, 1, false), (2, 1, false)] [{ name := "b", type := 53, offset := 0, embedded := Bool.false, tag := "", pkgPath := "cresset/record", byteOffset := 0 }, { name := "at", type := 3, offset := 1, embedded := Bool.false, tag := "", pkgPath := "cresset/record", byteOffset := 24 }, { name := "e", type := 29, offset := 2, embedded := Bool.false, tag := "", pkgPath := "cresset/record", byteOffset := 32 }] := (FldsOK.cons rfl Tryz.sizeOf53 Tryz.isAgg53 (FldsOK.cons rfl Tryz.sizeOf3 Tryz.isAgg3 (FldsOK.cons rfl Tryz.sizeOf29 Tryz.isAgg29 FldsOK.nil)))
theorem Vxt147 : XTok Tryz.prog 147 Vx147 := XTok.mk' (by exact Tryz.underlying147) (KdOK.st Vfd147) (by exact Tryz.sizeOf147) (by exact Tryz.zeroValue147) (by kernel_rfl) (by kernel_rfl) rfl (by exact Tryz.isAgg147) (by kernel_rfl)
def Vx159 : XT := ⟨.st [(0, 1, false), (1, 2, true), (3, 1, false), (4, 1, false), (5, 1, false)], 6, 64, [Go.Value.pointer Option.none, Go.Value.int Go.IntKind.i64 0, Go.Value.int Go.IntKind.i64 0, Go.Value.slice Option.none 0 0, Go.Value.int Go.IntKind.i64 0, Go.Value.bool Bool.false], true⟩
theorem Vfd159 : FldsOK Tryz.prog [(0, 1, false), (1, 2, true), (3, 1, false), (4, 1, false), (5, 1, false)] [{ name := "d", type := 49, offset := 0, embedded := Bool.false, tag := "", pkgPath := "cresset/ckpt", byteOffset := 0 }, { name := "a", type := 23, offset := 1, embedded := Bool.false, tag := "", pkgPath := "cresset/ckpt", byteOffset := 8 }, { name := "l", type := 39, offset := 3, embedded := Bool.false, tag := "", pkgPath := "cresset/ckpt", byteOffset := 24 }, { name := "n", type := 3, offset := 4, embedded := Bool.false, tag := "", pkgPath := "cresset/ckpt", byteOffset := 48 }, { name := "done", type := 4, offset := 5, embedded := Bool.false, tag := "", pkgPath := "cresset/ckpt", byteOffset := 56 }] := (FldsOK.cons rfl Tryz.sizeOf49 Tryz.isAgg49 (FldsOK.cons rfl Tryz.sizeOf23 Tryz.isAgg23 (FldsOK.cons rfl Tryz.sizeOf39 Tryz.isAgg39 (FldsOK.cons rfl Tryz.sizeOf3 Tryz.isAgg3 (FldsOK.cons rfl Tryz.sizeOf4 Tryz.isAgg4 FldsOK.nil)))))
theorem Vxt159 : XTok Tryz.prog 159 Vx159 := XTok.mk' (by exact Tryz.underlying159) (KdOK.st Vfd159) (by exact Tryz.sizeOf159) (by exact Tryz.zeroValue159) (by kernel_rfl) (by kernel_rfl) rfl (by exact Tryz.isAgg159) (by kernel_rfl)
def Vx164 : XT := ⟨.ifc, 1, 16, [Go.Value.nilIface], false⟩
theorem Vxt164 : XTok Tryz.prog 164 Vx164 := XTok.mk' (by exact Tryz.underlying164) ⟨_, rfl⟩ (by exact Tryz.sizeOf164) (by exact Tryz.zeroValue164) (by kernel_rfl) (by kernel_rfl) rfl (by exact Tryz.isAgg164) (by kernel_rfl)
def Vx165 : XT := ⟨.int .u32, 1, 4, [Go.Value.int Go.IntKind.u32 0], false⟩
theorem Vxt165 : XTok Tryz.prog 165 Vx165 := XTok.mk' (by exact Tryz.underlying165) rfl (by exact Tryz.sizeOf165) (by exact Tryz.zeroValue165) (by kernel_rfl) (by kernel_rfl) rfl (by exact Tryz.isAgg165) (by kernel_rfl)
def Vx168 : XT := ⟨.int .u64, 1, 8, [Go.Value.int Go.IntKind.u64 0], false⟩
theorem Vxt168 : XTok Tryz.prog 168 Vx168 := XTok.mk' (by exact Tryz.underlying168) rfl (by exact Tryz.sizeOf168) (by exact Tryz.zeroValue168) (by kernel_rfl) (by kernel_rfl) rfl (by exact Tryz.isAgg168) (by kernel_rfl)
def Vx170 : XT := ⟨.int .u64, 1, 8, [Go.Value.int Go.IntKind.u64 0], false⟩
theorem Vxt170 : XTok Tryz.prog 170 Vx170 := XTok.mk' (by exact Tryz.underlying170) rfl (by exact Tryz.sizeOf170) (by exact Tryz.zeroValue170) (by kernel_rfl) (by kernel_rfl) rfl (by exact Tryz.isAgg170) (by kernel_rfl)
def Vx171 : XT := ⟨.arr 6 53, 6, 144, [Go.Value.slice Option.none 0 0, Go.Value.slice Option.none 0 0, Go.Value.slice Option.none 0 0, Go.Value.slice Option.none 0 0, Go.Value.slice Option.none 0 0, Go.Value.slice Option.none 0 0], true⟩
theorem Vxt171 : XTok Tryz.prog 171 Vx171 := XTok.mk' (by exact Tryz.underlying171) rfl (by exact Tryz.sizeOf171) (by exact Tryz.zeroValue171) (by kernel_rfl) (by kernel_rfl) rfl (by exact Tryz.isAgg171) (by kernel_rfl)
def Vx181 : XT := ⟨.fn, 1, 8, [Go.Value.nilFunc], false⟩
theorem Vxt181 : XTok Tryz.prog 181 Vx181 := XTok.mk' (by exact Tryz.underlying181) ⟨_, _, _, rfl⟩ (by exact Tryz.sizeOf181) (by exact Tryz.zeroValue181) (by kernel_rfl) (by kernel_rfl) rfl (by exact Tryz.isAgg181) (by kernel_rfl)
def Vx190 : XT := ⟨.fn, 1, 8, [Go.Value.nilFunc], false⟩
theorem Vxt190 : XTok Tryz.prog 190 Vx190 := XTok.mk' (by exact Tryz.underlying190) ⟨_, _, _, rfl⟩ (by exact Tryz.sizeOf190) (by exact Tryz.zeroValue190) (by kernel_rfl) (by kernel_rfl) rfl (by exact Tryz.isAgg190) (by kernel_rfl)
def Vx195 : XT := ⟨.sl 3, 1, 24, [Go.Value.slice Option.none 0 0], false⟩
theorem Vxt195 : XTok Tryz.prog 195 Vx195 := XTok.mk' (by exact Tryz.underlying195) rfl (by exact Tryz.sizeOf195) (by exact Tryz.zeroValue195) (by kernel_rfl) (by kernel_rfl) rfl (by exact Tryz.isAgg195) (by kernel_rfl)
def Vx199 : XT := ⟨.st [(0, 3, true)], 3, 40, [Go.Value.int Go.IntKind.i64 0, Go.Value.slice Option.none 0 0, Go.Value.bool Bool.false], true⟩
theorem Vfd199 : FldsOK Tryz.prog [(0, 3, true)] [{ name := "Chunk", type := 129, offset := 0, embedded := Bool.true, tag := "", pkgPath := "", byteOffset := 0 }] := (FldsOK.cons rfl Tryz.sizeOf129 Tryz.isAgg129 FldsOK.nil)
theorem Vxt199 : XTok Tryz.prog 199 Vx199 := XTok.mk' (by exact Tryz.underlying199) (KdOK.st Vfd199) (by exact Tryz.sizeOf199) (by exact Tryz.zeroValue199) (by kernel_rfl) (by kernel_rfl) rfl (by exact Tryz.isAgg199) (by kernel_rfl)
def Vx202 : XT := ⟨.fn, 1, 8, [Go.Value.nilFunc], false⟩
theorem Vxt202 : XTok Tryz.prog 202 Vx202 := XTok.mk' (by exact Tryz.underlying202) ⟨_, _, _, rfl⟩ (by exact Tryz.sizeOf202) (by exact Tryz.zeroValue202) (by kernel_rfl) (by kernel_rfl) rfl (by exact Tryz.isAgg202) (by kernel_rfl)
def Vx204 : XT := ⟨.fn, 1, 8, [Go.Value.nilFunc], false⟩
theorem Vxt204 : XTok Tryz.prog 204 Vx204 := XTok.mk' (by exact Tryz.underlying204) ⟨_, _, _, rfl⟩ (by exact Tryz.sizeOf204) (by exact Tryz.zeroValue204) (by kernel_rfl) (by kernel_rfl) rfl (by exact Tryz.isAgg204) (by kernel_rfl)
def Vx206 : XT := ⟨.fn, 1, 8, [Go.Value.nilFunc], false⟩
theorem Vxt206 : XTok Tryz.prog 206 Vx206 := XTok.mk' (by exact Tryz.underlying206) ⟨_, _, _, rfl⟩ (by exact Tryz.sizeOf206) (by exact Tryz.zeroValue206) (by kernel_rfl) (by kernel_rfl) rfl (by exact Tryz.isAgg206) (by kernel_rfl)
def Vx208 : XT := ⟨.sl 29, 1, 24, [Go.Value.slice Option.none 0 0], false⟩
theorem Vxt208 : XTok Tryz.prog 208 Vx208 := XTok.mk' (by exact Tryz.underlying208) rfl (by exact Tryz.sizeOf208) (by exact Tryz.zeroValue208) (by kernel_rfl) (by kernel_rfl) rfl (by exact Tryz.isAgg208) (by kernel_rfl)
def Vx210 : XT := ⟨.st [(0, 8, true)], 8, 64, [Go.Value.int Go.IntKind.i64 0, Go.Value.int Go.IntKind.i64 0, Go.Value.int Go.IntKind.i64 0, Go.Value.int Go.IntKind.i64 0, Go.Value.int Go.IntKind.i64 0, Go.Value.int Go.IntKind.i64 0, Go.Value.int Go.IntKind.i64 0, Go.Value.int Go.IntKind.i64 0], true⟩
theorem Vfd210 : FldsOK Tryz.prog [(0, 8, true)] [{ name := "Master", type := 38, offset := 0, embedded := Bool.true, tag := "", pkgPath := "", byteOffset := 0 }] := (FldsOK.cons rfl Tryz.sizeOf38 Tryz.isAgg38 FldsOK.nil)
theorem Vxt210 : XTok Tryz.prog 210 Vx210 := XTok.mk' (by exact Tryz.underlying210) (KdOK.st Vfd210) (by exact Tryz.sizeOf210) (by exact Tryz.zeroValue210) (by kernel_rfl) (by kernel_rfl) rfl (by exact Tryz.isAgg210) (by kernel_rfl)
def Vx224 : XT := ⟨.int .i64, 1, 8, [Go.Value.int Go.IntKind.i64 0], false⟩
theorem Vxt224 : XTok Tryz.prog 224 Vx224 := XTok.mk' (by exact Tryz.underlying224) rfl (by exact Tryz.sizeOf224) (by exact Tryz.zeroValue224) (by kernel_rfl) (by kernel_rfl) rfl (by exact Tryz.isAgg224) (by kernel_rfl)
def Vx233 : XT := ⟨.int .u64, 1, 8, [Go.Value.int Go.IntKind.u64 0], false⟩
theorem Vxt233 : XTok Tryz.prog 233 Vx233 := XTok.mk' (by exact Tryz.underlying233) rfl (by exact Tryz.sizeOf233) (by exact Tryz.zeroValue233) (by kernel_rfl) (by kernel_rfl) rfl (by exact Tryz.isAgg233) (by kernel_rfl)
def Vx237 : XT := ⟨.ptr 3, 1, 8, [Go.Value.pointer Option.none], false⟩
theorem Vxt237 : XTok Tryz.prog 237 Vx237 := XTok.mk' (by exact Tryz.underlying237) rfl (by exact Tryz.sizeOf237) (by exact Tryz.zeroValue237) (by kernel_rfl) (by kernel_rfl) rfl (by exact Tryz.isAgg237) (by kernel_rfl)
def Vx256 : XT := ⟨.st [(0, 3, true)], 3, 40, [Go.Value.string { data := #[] }, Go.Value.string { data := #[] }, Go.Value.bool Bool.false], true⟩
theorem Vfd256 : FldsOK Tryz.prog [(0, 3, true)] [{ name := "Write", type := 57, offset := 0, embedded := Bool.true, tag := "", pkgPath := "", byteOffset := 0 }] := (FldsOK.cons rfl Tryz.sizeOf57 Tryz.isAgg57 FldsOK.nil)
theorem Vxt256 : XTok Tryz.prog 256 Vx256 := XTok.mk' (by exact Tryz.underlying256) (KdOK.st Vfd256) (by exact Tryz.sizeOf256) (by exact Tryz.zeroValue256) (by kernel_rfl) (by kernel_rfl) rfl (by exact Tryz.isAgg256) (by kernel_rfl)
def Vx261 : XT := ⟨.arr 8 2, 8, 64, [Go.Value.int Go.IntKind.i64 0, Go.Value.int Go.IntKind.i64 0, Go.Value.int Go.IntKind.i64 0, Go.Value.int Go.IntKind.i64 0, Go.Value.int Go.IntKind.i64 0, Go.Value.int Go.IntKind.i64 0, Go.Value.int Go.IntKind.i64 0, Go.Value.int Go.IntKind.i64 0], true⟩
theorem Vxt261 : XTok Tryz.prog 261 Vx261 := XTok.mk' (by exact Tryz.underlying261) rfl (by exact Tryz.sizeOf261) (by exact Tryz.zeroValue261) (by kernel_rfl) (by kernel_rfl) rfl (by exact Tryz.isAgg261) (by kernel_rfl)
def VX : T XT := (.nd (.nd (.nd (.nd (.nd (.nd (.nd (.nd .lf (some Vx127) .lf) none .lf) none (.nd (.nd .lf (some Vx159) .lf) none .lf)) none (.nd (.nd .lf (some Vx79) .lf) none (.nd .lf (some Vx111) .lf))) none (.nd (.nd (.nd .lf none (.nd .lf (some Vx199) .lf)) (some Vx39) .lf) (some Vx23) .lf)) (some Vx3) (.nd (.nd (.nd (.nd .lf (some Vx67) (.nd .lf (some Vx195) .lf)) none (.nd .lf (some Vx99) .lf)) none (.nd (.nd (.nd .lf (some Vx147) .lf) none .lf) none .lf)) none (.nd (.nd .lf none (.nd (.nd .lf (some Vx171) .lf) none .lf)) none (.nd .lf none (.nd .lf (some Vx123) .lf))))) none (.nd (.nd (.nd (.nd (.nd (.nd .lf (some Vx129) .lf) none .lf) none .lf) none (.nd (.nd (.nd .lf (some Vx145) .lf) none .lf) (some Vx49) .lf)) (some Vx9) (.nd (.nd (.nd (.nd .lf (some Vx137) .lf) none .lf) (some Vx41) (.nd .lf (some Vx105) (.nd .lf (some Vx233) .lf))) none (.nd .lf (some Vx57) .lf))) (some Vx5) (.nd (.nd (.nd (.nd (.nd (.nd .lf (some Vx261) .lf) (some Vx133) .lf) none .lf) none (.nd (.nd .lf (some Vx165) .lf) none .lf)) none (.nd .lf (some Vx53) (.nd (.nd .lf (some Vx181) .lf) none .lf))) none (.nd (.nd .lf none (.nd .lf (some Vx109) (.nd .lf (some Vx237) .lf))) (some Vx29) .lf)))) none (.nd (.nd (.nd (.nd (.nd (.nd (.nd (.nd .lf (some Vx256) .lf) none .lf) none .lf) none (.nd .lf none (.nd .lf (some Vx224) .lf))) none (.nd (.nd .lf none (.nd .lf (some Vx208) .lf)) none .lf)) none (.nd (.nd .lf none (.nd (.nd .lf (some Vx168) .lf) none .lf)) (some Vx24) (.nd .lf none (.nd .lf (some Vx120) .lf)))) (some Vx4) (.nd (.nd (.nd .lf (some Vx36) (.nd (.nd .lf (some Vx164) .lf) (some Vx100) .lf)) (some Vx20) .lf) none (.nd (.nd (.nd .lf none (.nd .lf (some Vx204) .lf)) none (.nd .lf (some Vx108) .lf)) none (.nd .lf (some Vx60) .lf)))) (some Vx2) (.nd (.nd (.nd (.nd (.nd .lf (some Vx66) .lf) none (.nd .lf (some Vx98) .lf)) none (.nd (.nd .lf none (.nd .lf (some Vx210) .lf)) none (.nd .lf (some Vx114) .lf))) none (.nd (.nd (.nd .lf none (.nd .lf (some Vx202) .lf)) (some Vx42) (.nd (.nd .lf (some Vx170) .lf) none .lf)) (some Vx26) (.nd (.nd .lf (some Vx90) .lf) (some Vx58) (.nd .lf (some Vx122) .lf)))) none (.nd (.nd (.nd .lf (some Vx38) (.nd .lf (some Vx102) .lf)) none (.nd .lf none (.nd .lf (some Vx118) .lf))) none (.nd (.nd (.nd .lf none (.nd .lf (some Vx206) .lf)) none .lf) none (.nd .lf none (.nd (.nd .lf (some Vx190) .lf) none .lf)))))))
theorem VX_ok : TyOK Tryz.prog VX := fun t x hx => T.All.root (p := fun t x => XTok Tryz.prog t x) (t := VX) (T.all_no (T.all_no (T.all_nd Vxt3 (T.all_no (T.all_no (T.all_no (T.all_no (T.all_nd Vxt127 T.all_lf T.all_lf) T.all_lf) (T.all_no (T.all_nd Vxt159 T.all_lf T.all_lf) T.all_lf)) (T.all_no (T.all_nd Vxt79 T.all_lf T.all_lf) (T.all_nd Vxt111 T.all_lf T.all_lf))) (T.all_nd Vxt23 (T.all_nd Vxt39 (T.all_no T.all_lf (T.all_nd Vxt199 T.all_lf T.all_lf)) T.all_lf) T.all_lf)) (T.all_no (T.all_no (T.all_no (T.all_nd Vxt67 T.all_lf (T.all_nd Vxt195 T.all_lf T.all_lf)) (T.all_nd Vxt99 T.all_lf T.all_lf)) (T.all_no (T.all_no (T.all_nd Vxt147 T.all_lf T.all_lf) T.all_lf) T.all_lf)) (T.all_no (T.all_no T.all_lf (T.all_no (T.all_nd Vxt171 T.all_lf T.all_lf) T.all_lf)) (T.all_no T.all_lf (T.all_nd Vxt123 T.all_lf T.all_lf))))) (T.all_nd Vxt5 (T.all_nd Vxt9 (T.all_no (T.all_no (T.all_no (T.all_nd Vxt129 T.all_lf T.all_lf) T.all_lf) T.all_lf) (T.all_nd Vxt49 (T.all_no (T.all_nd Vxt145 T.all_lf T.all_lf) T.all_lf) T.all_lf)) (T.all_no (T.all_nd Vxt41 (T.all_no (T.all_nd Vxt137 T.all_lf T.all_lf) T.all_lf) (T.all_nd Vxt105 T.all_lf (T.all_nd Vxt233 T.all_lf T.all_lf))) (T.all_nd Vxt57 T.all_lf T.all_lf))) (T.all_no (T.all_no (T.all_no (T.all_no (T.all_nd Vxt133 (T.all_nd Vxt261 T.all_lf T.all_lf) T.all_lf) T.all_lf) (T.all_no (T.all_nd Vxt165 T.all_lf T.all_lf) T.all_lf)) (T.all_nd Vxt53 T.all_lf (T.all_no (T.all_nd Vxt181 T.all_lf T.all_lf) T.all_lf))) (T.all_nd Vxt29 (T.all_no T.all_lf (T.all_nd Vxt109 T.all_lf (T.all_nd Vxt237 T.all_lf T.all_lf))) T.all_lf)))) (T.all_nd Vxt2 (T.all_nd Vxt4 (T.all_no (T.all_no (T.all_no (T.all_no (T.all_no (T.all_nd Vxt256 T.all_lf T.all_lf) T.all_lf) T.all_lf) (T.all_no T.all_lf (T.all_nd Vxt224 T.all_lf T.all_lf))) (T.all_no (T.all_no T.all_lf (T.all_nd Vxt208 T.all_lf T.all_lf)) T.all_lf)) (T.all_nd Vxt24 (T.all_no T.all_lf (T.all_no (T.all_nd Vxt168 T.all_lf T.all_lf) T.all_lf)) (T.all_no T.all_lf (T.all_nd Vxt120 T.all_lf T.all_lf)))) (T.all_no (T.all_nd Vxt20 (T.all_nd Vxt36 T.all_lf (T.all_nd Vxt100 (T.all_nd Vxt164 T.all_lf T.all_lf) T.all_lf)) T.all_lf) (T.all_no (T.all_no (T.all_no T.all_lf (T.all_nd Vxt204 T.all_lf T.all_lf)) (T.all_nd Vxt108 T.all_lf T.all_lf)) (T.all_nd Vxt60 T.all_lf T.all_lf)))) (T.all_no (T.all_no (T.all_no (T.all_no (T.all_nd Vxt66 T.all_lf T.all_lf) (T.all_nd Vxt98 T.all_lf T.all_lf)) (T.all_no (T.all_no T.all_lf (T.all_nd Vxt210 T.all_lf T.all_lf)) (T.all_nd Vxt114 T.all_lf T.all_lf))) (T.all_nd Vxt26 (T.all_nd Vxt42 (T.all_no T.all_lf (T.all_nd Vxt202 T.all_lf T.all_lf)) (T.all_no (T.all_nd Vxt170 T.all_lf T.all_lf) T.all_lf)) (T.all_nd Vxt58 (T.all_nd Vxt90 T.all_lf T.all_lf) (T.all_nd Vxt122 T.all_lf T.all_lf)))) (T.all_no (T.all_no (T.all_nd Vxt38 T.all_lf (T.all_nd Vxt102 T.all_lf T.all_lf)) (T.all_no T.all_lf (T.all_nd Vxt118 T.all_lf T.all_lf))) (T.all_no (T.all_no (T.all_no T.all_lf (T.all_nd Vxt206 T.all_lf T.all_lf)) T.all_lf) (T.all_no T.all_lf (T.all_no (T.all_nd Vxt190 T.all_lf T.all_lf) T.all_lf))))))) hx
theorem Vev36 : EqV Tryz.prog 36 [.int .i64, .int .i64, .int .i64, .int .i64] true 2 := EqV.st (ps := [([.int .i64], false), ([.int .i64], false), ([.int .i64], false), ([.int .i64], false)]) (k := 1) Tryz.underlying36 (by kernel_rfl) ⟨[.int .i64], false, _, rfl, by decide, rfl, by exact Tryz.sizeOf2, by exact Tryz.isAgg2, by decide, fun d hd => (EqV.int Tryz.underlying2) d (Nat.le_trans (by decide) hd), ⟨[.int .i64], false, _, rfl, by decide, rfl, by exact Tryz.sizeOf3, by exact Tryz.isAgg3, by decide, fun d hd => (EqV.int Tryz.underlying3) d (Nat.le_trans (by decide) hd), ⟨[.int .i64], false, _, rfl, by decide, rfl, by exact Tryz.sizeOf2, by exact Tryz.isAgg2, by decide, fun d hd => (EqV.int Tryz.underlying2) d (Nat.le_trans (by decide) hd), ⟨[.int .i64], false, _, rfl, by decide, rfl, by exact Tryz.sizeOf2, by exact Tryz.isAgg2, by decide, fun d hd => (EqV.int Tryz.underlying2) d (Nat.le_trans (by decide) hd), rfl⟩⟩⟩⟩
theorem Vev38 : EqV Tryz.prog 38 [.int .i64, .int .i64, .int .i64, .int .i64, .int .i64, .int .i64, .int .i64, .int .i64] true 3 := EqV.st (ps := [([.int .i64], false), ([.int .i64], false), ([.int .i64], false), ([.int .i64], false), ([.int .i64, .int .i64, .int .i64, .int .i64], true)]) (k := 2) Tryz.underlying38 (by kernel_rfl) ⟨[.int .i64], false, _, rfl, by decide, rfl, by exact Tryz.sizeOf2, by exact Tryz.isAgg2, by decide, fun d hd => (EqV.int Tryz.underlying2) d (Nat.le_trans (by decide) hd), ⟨[.int .i64], false, _, rfl, by decide, rfl, by exact Tryz.sizeOf3, by exact Tryz.isAgg3, by decide, fun d hd => (EqV.int Tryz.underlying3) d (Nat.le_trans (by decide) hd), ⟨[.int .i64], false, _, rfl, by decide, rfl, by exact Tryz.sizeOf3, by exact Tryz.isAgg3, by decide, fun d hd => (EqV.int Tryz.underlying3) d (Nat.le_trans (by decide) hd), ⟨[.int .i64], false, _, rfl, by decide, rfl, by exact Tryz.sizeOf2, by exact Tryz.isAgg2, by decide, fun d hd => (EqV.int Tryz.underlying2) d (Nat.le_trans (by decide) hd), ⟨[.int .i64, .int .i64, .int .i64, .int .i64], true, _, rfl, by decide, rfl, by exact Tryz.sizeOf36, by exact Tryz.isAgg36, by decide, fun d hd => Vev36 d (Nat.le_trans (by decide) hd), rfl⟩⟩⟩⟩⟩
theorem Vev118 : EqV Tryz.prog 118 [.str, .str, .int .i64] true 2 := EqV.st (ps := [([.str], false), ([.str], false), ([.int .i64], false)]) (k := 1) Tryz.underlying118 (by kernel_rfl) ⟨[.str], false, _, rfl, by decide, rfl, by exact Tryz.sizeOf9, by exact Tryz.isAgg9, by decide, fun d hd => (EqV.str Tryz.underlying9) d (Nat.le_trans (by decide) hd), ⟨[.str], false, _, rfl, by decide, rfl, by exact Tryz.sizeOf9, by exact Tryz.isAgg9, by decide, fun d hd => (EqV.str Tryz.underlying9) d (Nat.le_trans (by decide) hd), ⟨[.int .i64], false, _, rfl, by decide, rfl, by exact Tryz.sizeOf2, by exact Tryz.isAgg2, by decide, fun d hd => (EqV.int Tryz.underlying2) d (Nat.le_trans (by decide) hd), rfl⟩⟩⟩
def VE : T (List XK) := (.nd .lf none (.nd .lf none (.nd .lf none (.nd (.nd (.nd .lf (some [.int .i64, .int .i64, .int .i64, .int .i64, .int .i64, .int .i64, .int .i64, .int .i64]) .lf) none (.nd .lf none (.nd .lf (some [.str, .str, .int .i64]) .lf))) none .lf))))
theorem VE_ok : EqTab Tryz.prog VE := fun t ks hx => T.All.root (p := fun t ks => EqOK Tryz.prog t ks) (t := VE) (T.all_no T.all_lf (T.all_no T.all_lf (T.all_no T.all_lf (T.all_no (T.all_no (T.all_nd (EqOK.of Vev38 (by kernel_rfl) (by kernel_rfl)) T.all_lf T.all_lf) (T.all_no T.all_lf (T.all_nd (EqOK.of Vev118 (by kernel_rfl) (by kernel_rfl)) T.all_lf T.all_lf))) T.all_lf)))) hx
end Go.Gsl

namespace Go.Gsl
set_option linter.unusedVariables false
open Go.Proofs
set_option maxRecDepth 100000
noncomputable def Vc4 : Code := match Tryz.f4.body with | some c => c | none => .skip
noncomputable def Vb4 : FB := ⟨46, Vc4, [.tmp 4], .lf⟩
theorem Vbd4 : BdOK Tryz.prog 4 Vb4 := ⟨⟨_, Tryz.func4, by kernel_rfl, by exact Tryz.ntmps4, by kernel_rfl⟩, by kernel_rfl, Tryz.call4⟩
noncomputable def Vc6 : Code := match Tryz.f6.body with | some c => c | none => .skip
noncomputable def Vb6 : FB := ⟨57, Vc6, [.cell 6 26, .tmp 7], .lf⟩
theorem Vbd6 : BdOK Tryz.prog 6 Vb6 := ⟨⟨_, Tryz.func6, by kernel_rfl, by exact Tryz.ntmps6, by kernel_rfl⟩, by kernel_rfl, Tryz.call6⟩
noncomputable def Vc7 : Code := match Tryz.f7.body with | some c => c | none => .skip
noncomputable def Vb7 : FB := ⟨93, Vc7, [.tmp 0], .lf⟩
theorem Vbd7 : BdOK Tryz.prog 7 Vb7 := ⟨⟨_, Tryz.func7, by kernel_rfl, by exact Tryz.ntmps7, by kernel_rfl⟩, by kernel_rfl, Tryz.call7⟩
noncomputable def Vc8 : Code := match Tryz.f8.body with | some c => c | none => .skip
noncomputable def Vb8 : FB := ⟨108, Vc8, [.tmp 4], .lf⟩
theorem Vbd8 : BdOK Tryz.prog 8 Vb8 := ⟨⟨_, Tryz.func8, by kernel_rfl, by exact Tryz.ntmps8, by kernel_rfl⟩, by kernel_rfl, Tryz.call8⟩
noncomputable def Vc10 : Code := match Tryz.f10.body with | some c => c | none => .skip
noncomputable def Vb10 : FB := ⟨121, Vc10, [.cell 4 41, .cell 5 42, .cell 6 29], (.nd .lf none (.nd (.nd .lf (some [.ld 0, .rd 1, .eff 2, .eff 3, .fg 0 [3], .eff 4]) .lf) none (.nd (.nd .lf (some [.rd 0, .rd 1, .ld 2, .rd 3, .rd 4, .ld 5, .rd 6, .ld 7, .eff 8, .fg 2 [8, 5, 4], .fg 5 [8], .fg 7 [8], .rd 9, .rd 10, .rd 11, .rd 12, .rd 13]) (.nd .lf (some [.ld 0, .rd 1, .rd 2, .ld 3, .rd 4, .ld 5, .eff 6, .fg 0 [6], .fg 3 [6], .eff 7, .fg 5 [7], .eff 8]) .lf)) none .lf)))⟩
theorem Vbd10 : BdOK Tryz.prog 10 Vb10 := ⟨⟨_, Tryz.func10, by kernel_rfl, by exact Tryz.ntmps10, by kernel_rfl⟩, by kernel_rfl, Tryz.call10⟩
noncomputable def Vc11 : Code := match Tryz.f11.body with | some c => c | none => .skip
noncomputable def Vb11 : FB := ⟨66, Vc11, [.cell 12 38, .cell 13 29], (.nd .lf none (.nd (.nd .lf (some [.ld 0, .rd 1, .eff 2, .eff 3, .fg 0 [3], .eff 4]) .lf) none .lf))⟩
theorem Vbd11 : BdOK Tryz.prog 11 Vb11 := ⟨⟨_, Tryz.func11, by kernel_rfl, by exact Tryz.ntmps11, by kernel_rfl⟩, by kernel_rfl, Tryz.call11⟩
noncomputable def Vc12 : Code := match Tryz.f12.body with | some c => c | none => .skip
noncomputable def Vb12 : FB := ⟨31, Vc12, [.tmp 4], .lf⟩
theorem Vbd12 : BdOK Tryz.prog 12 Vb12 := ⟨⟨_, Tryz.func12, by kernel_rfl, by exact Tryz.ntmps12, by kernel_rfl⟩, by kernel_rfl, Tryz.call12⟩
noncomputable def Vc13 : Code := match Tryz.f13.body with | some c => c | none => .skip
noncomputable def Vb13 : FB := ⟨34, Vc13, [.tmp 2, .tmp 3], (.nd (.nd (.nd (.nd .lf (some [.rd 0, .rd 1, .rd 2, .ld 3, .rd 4, .eff 5, .rd 6, .eff 7, .fg 3 [7]]) .lf) none .lf) none .lf) none .lf)⟩
theorem Vbd13 : BdOK Tryz.prog 13 Vb13 := ⟨⟨_, Tryz.func13, by kernel_rfl, by exact Tryz.ntmps13, by kernel_rfl⟩, by kernel_rfl, Tryz.call13⟩
noncomputable def Vc14 : Code := match Tryz.f14.body with | some c => c | none => .skip
noncomputable def Vb14 : FB := ⟨8, Vc14, [.cell 0 26], .lf⟩
theorem Vbd14 : BdOK Tryz.prog 14 Vb14 := ⟨⟨_, Tryz.func14, by kernel_rfl, by exact Tryz.ntmps14, by kernel_rfl⟩, by kernel_rfl, Tryz.call14⟩
noncomputable def Vc15 : Code := match Tryz.f15.body with | some c => c | none => .skip
noncomputable def Vb15 : FB := ⟨10, Vc15, [.tmp 2, .tmp 3], .lf⟩
theorem Vbd15 : BdOK Tryz.prog 15 Vb15 := ⟨⟨_, Tryz.func15, by kernel_rfl, by exact Tryz.ntmps15, by kernel_rfl⟩, by kernel_rfl, Tryz.call15⟩
noncomputable def Vc16 : Code := match Tryz.f16.body with | some c => c | none => .skip
noncomputable def Vb16 : FB := ⟨76, Vc16, [.tmp 4, .tmp 5], (.nd (.nd (.nd .lf none (.nd .lf (some [.rd 0, .rd 1, .rd 2, .rd 3, .ld 4, .rd 5, .rd 7, .eff 6, .eff 8, .rd 9, .eff 10, .eff 11, .fg 4 [11], .rd 12, .rd 13, .eff 14]) .lf)) none .lf) none .lf)⟩
theorem Vbd16 : BdOK Tryz.prog 16 Vb16 := ⟨⟨_, Tryz.func16, by kernel_rfl, by exact Tryz.ntmps16, by kernel_rfl⟩, by kernel_rfl, Tryz.call16⟩
noncomputable def Vc17 : Code := match Tryz.f17.body with | some c => c | none => .skip
noncomputable def Vb17 : FB := ⟨160, Vc17, [.tmp 2], (.nd (.nd .lf none (.nd .lf (some [.rd 0, .rd 1, .rd 2, .ld 3, .rd 4, .rd 5, .rd 6, .rd 7, .ld 8, .rd 9, .rd 10]) (.nd .lf (some [.rd 0, .rd 1, .rd 2, .ld 3, .rd 4, .rd 5, .rd 6, .ld 7, .rd 8, .rd 9, .rd 10, .rd 11, .ld 12, .rd 13, .rd 14, .rd 15, .eff 16, .fg 3 [16], .fg 7 [16, 14], .fg 12 [16, 14, 13], .rd 17]) .lf))) none (.nd (.nd (.nd .lf none (.nd .lf (some [.rd 0, .rd 1, .rd 2, .ld 3, .rd 4, .rd 5, .rd 6, .rd 7, .ld 8, .rd 9, .rd 10, .rd 11, .rd 12, .ld 13, .rd 14, .eff 15, .fg 3 [15], .fg 8 [15], .fg 13 [15]]) .lf)) none .lf) none (.nd (.nd .lf (some [.rd 0, .rd 1, .rd 2, .rd 3, .ld 4, .rd 5, .rd 6, .rd 7, .ld 8, .rd 9, .rd 10, .rd 11, .ld 12, .rd 13, .rd 14, .rd 15, .rd 16, .rd 17, .rd 18, .ld 19, .rd 20, .rd 21, .rd 22, .eff 23, .fg 4 [23], .fg 8 [23], .fg 12 [23, 22], .fg 19 [23, 22, 21, 20], .rd 24, .rd 25, .rd 26, .rd 27, .rd 28]) .lf) none (.nd (.nd .lf (some [.rd 0, .rd 1, .rd 2, .ld 3, .rd 4, .rd 5, .rd 6, .rd 7, .rd 8, .ld 9, .rd 10, .rd 11]) .lf) none .lf))))⟩
theorem Vbd17 : BdOK Tryz.prog 17 Vb17 := ⟨⟨_, Tryz.func17, by kernel_rfl, by exact Tryz.ntmps17, by kernel_rfl⟩, by kernel_rfl, Tryz.call17⟩
noncomputable def Vc18 : Code := match Tryz.f18.body with | some c => c | none => .skip
noncomputable def Vb18 : FB := ⟨31, Vc18, [.tmp 4], .lf⟩
theorem Vbd18 : BdOK Tryz.prog 18 Vb18 := ⟨⟨_, Tryz.func18, by kernel_rfl, by exact Tryz.ntmps18, by kernel_rfl⟩, by kernel_rfl, Tryz.call18⟩
noncomputable def Vc19 : Code := match Tryz.f19.body with | some c => c | none => .skip
noncomputable def Vb19 : FB := ⟨34, Vc19, [.tmp 4], .lf⟩
theorem Vbd19 : BdOK Tryz.prog 19 Vb19 := ⟨⟨_, Tryz.func19, by kernel_rfl, by exact Tryz.ntmps19, by kernel_rfl⟩, by kernel_rfl, Tryz.call19⟩
noncomputable def Vc21 : Code := match Tryz.f21.body with | some c => c | none => .skip
noncomputable def Vb21 : FB := ⟨10, Vc21, [], .lf⟩
theorem Vbd21 : BdOK Tryz.prog 21 Vb21 := ⟨⟨_, Tryz.func21, by kernel_rfl, by exact Tryz.ntmps21, by kernel_rfl⟩, by kernel_rfl, Tryz.call21⟩
noncomputable def Vc22 : Code := match Tryz.f22.body with | some c => c | none => .skip
noncomputable def Vb22 : FB := ⟨15, Vc22, [.tmp 2], .lf⟩
theorem Vbd22 : BdOK Tryz.prog 22 Vb22 := ⟨⟨_, Tryz.func22, by kernel_rfl, by exact Tryz.ntmps22, by kernel_rfl⟩, by kernel_rfl, Tryz.call22⟩
noncomputable def Vc23 : Code := match Tryz.f23.body with | some c => c | none => .skip
noncomputable def Vb23 : FB := ⟨10, Vc23, [.tmp 2], .lf⟩
theorem Vbd23 : BdOK Tryz.prog 23 Vb23 := ⟨⟨_, Tryz.func23, by kernel_rfl, by exact Tryz.ntmps23, by kernel_rfl⟩, by kernel_rfl, Tryz.call23⟩
noncomputable def Vc24 : Code := match Tryz.f24.body with | some c => c | none => .skip
noncomputable def Vb24 : FB := ⟨7, Vc24, [], .lf⟩
theorem Vbd24 : BdOK Tryz.prog 24 Vb24 := ⟨⟨_, Tryz.func24, by kernel_rfl, by exact Tryz.ntmps24, by kernel_rfl⟩, by kernel_rfl, Tryz.call24⟩
noncomputable def Vc25 : Code := match Tryz.f25.body with | some c => c | none => .skip
noncomputable def Vb25 : FB := ⟨60, Vc25, [.cell 4 38, .tmp 5], (.nd (.nd (.nd (.nd .lf (some [.rd 0, .rd 1, .rd 2, .ld 3, .eff 4, .rd 5]) .lf) none .lf) none .lf) none (.nd (.nd (.nd .lf (some [.rd 0, .rd 1, .ld 2, .rd 3, .rd 4, .rd 5, .rd 6, .rd 7, .rd 8, .rd 9, .rd 10, .ld 11, .rd 12, .rd 13, .rd 14, .ld 15, .rd 16, .rd 17, .rd 18]) .lf) none .lf) none .lf))⟩
theorem Vbd25 : BdOK Tryz.prog 25 Vb25 := ⟨⟨_, Tryz.func25, by kernel_rfl, by exact Tryz.ntmps25, by kernel_rfl⟩, by kernel_rfl, Tryz.call25⟩
noncomputable def Vc26 : Code := match Tryz.f26.body with | some c => c | none => .skip
noncomputable def Vb26 : FB := ⟨95, Vc26, [.tmp 6, .tmp 7], (.nd (.nd (.nd .lf none (.nd (.nd .lf (some [.rd 0, .ld 1, .rd 2, .rd 3, .rd 4, .rd 5, .rd 6, .rd 7, .rd 8, .ld 9, .rd 10, .rd 11, .rd 12, .rd 13, .rd 14, .rd 15, .rd 16, .rd 17, .rd 18, .ld 19, .rd 20, .rd 21, .ld 22, .rd 23, .rd 24, .rd 25, .rd 26, .rd 27, .rd 28, .ld 29, .rd 30, .rd 31, .rd 32]) .lf) none .lf)) none .lf) none .lf)⟩
theorem Vbd26 : BdOK Tryz.prog 26 Vb26 := ⟨⟨_, Tryz.func26, by kernel_rfl, by exact Tryz.ntmps26, by kernel_rfl⟩, by kernel_rfl, Tryz.call26⟩
noncomputable def Vc27 : Code := match Tryz.f27.body with | some c => c | none => .skip
noncomputable def Vb27 : FB := ⟨300, Vc27, [.tmp 8, .tmp 9], (.nd (.nd (.nd (.nd (.nd (.nd .lf (some [.ld 0, .ld 1, .rd 2, .rd 3, .ld 4, .ld 5, .rd 6, .rd 7, .ld 8, .rd 9, .rd 10, .rd 11, .rd 12, .rd 13, .rd 14, .rd 15, .rd 16, .rd 17, .eff 18, .fg 0 [18], .fg 1 [18], .fg 4 [18], .fg 5 [18], .fg 8 [18]]) .lf) none .lf) none .lf) none (.nd (.nd .lf (some [.ld 0, .ld 1, .rd 2, .rd 3, .ld 4, .rd 5, .ld 6, .ld 7, .rd 8, .rd 9, .ld 10, .rd 11, .rd 12, .rd 13, .rd 14, .rd 15, .rd 16, .eff 17, .fg 0 [17], .fg 1 [17], .fg 4 [17], .fg 6 [17], .fg 7 [17], .fg 10 [17]]) .lf) none .lf)) none (.nd .lf none (.nd (.nd .lf (some [.ld 0, .ld 1, .rd 2, .rd 3, .ld 4, .rd 5, .ld 6, .eff 7, .eff 8, .fg 1 [8, 4, 3, 2], .fg 4 [8], .fg 6 [8, 7], .rd 9, .rd 10, .eff 11, .fg 0 [11]]) .lf) (some [.ld 0, .ld 1, .rd 2, .rd 3, .ld 4, .rd 5, .ld 6, .rd 7, .rd 8, .rd 9, .rd 10, .eff 11, .fg 0 [11], .fg 1 [11], .fg 4 [11], .fg 6 [11]]) (.nd .lf (some [.ld 0, .ld 1, .rd 2, .rd 3, .ld 4, .rd 5, .ld 6, .rd 7, .rd 8, .ld 9, .rd 10, .rd 11, .eff 12, .fg 1 [12, 4, 3, 2], .fg 4 [12], .fg 6 [12, 11, 10, 9, 8, 7], .fg 9 [12, 11, 10], .rd 13, .rd 14, .eff 15, .fg 0 [15]]) .lf)))) none (.nd (.nd (.nd (.nd (.nd .lf (some [.ld 0, .ld 1, .ld 2, .ld 3, .ld 5, .ld 7, .eff 4, .fg 3 [4], .eff 6, .fg 5 [6], .eff 8, .fg 7 [8], .rd 9, .rd 10, .eff 11, .fg 0 [11], .rd 12, .rd 13, .eff 14, .fg 1 [14], .rd 15, .rd 16, .eff 17, .fg 2 [17]]) .lf) none .lf) none .lf) none (.nd (.nd .lf (some [.ld 0, .ld 1, .rd 2, .rd 3, .ld 4, .rd 5, .ld 6, .eff 7, .fg 1 [7, 4, 3, 2], .fg 4 [7], .fg 6 [7], .rd 8, .rd 9, .eff 10, .fg 0 [10]]) .lf) none .lf)) none (.nd (.nd (.nd .lf (some [.rd 0, .rd 1, .rd 2, .rd 3, .ld 4, .ld 5, .rd 6, .rd 7, .ld 8, .rd 9, .rd 10, .rd 11, .ld 12, .rd 13, .rd 14, .rd 15, .rd 16, .ld 17, .rd 18, .ld 19, .rd 20, .rd 21, .rd 22]) .lf) none (.nd .lf (some [.ld 0, .ld 1, .rd 2, .rd 3, .ld 4, .ld 5, .rd 6, .rd 7, .ld 8, .rd 9, .rd 10, .rd 11, .rd 12, .eff 13, .rd 14, .eff 15, .eff 16, .fg 1 [16, 4, 3, 2], .fg 4 [16], .fg 5 [16, 15, 14, 11, 9, 8, 7, 6], .fg 8 [16, 15, 14, 11, 9], .rd 17, .rd 18, .eff 19, .fg 0 [19]]) .lf)) none (.nd .lf none (.nd .lf (some [.ld 0, .ld 1, .rd 2, .rd 3, .ld 4, .rd 5, .rd 6, .eff 7, .fg 1 [7, 6, 4, 3, 2], .fg 4 [7, 6], .rd 8, .rd 9, .eff 10, .fg 0 [10]]) .lf)))))⟩
theorem Vbd27 : BdOK Tryz.prog 27 Vb27 := ⟨⟨_, Tryz.func27, by kernel_rfl, by exact Tryz.ntmps27, by kernel_rfl⟩, by kernel_rfl, Tryz.call27⟩
noncomputable def Vc28 : Code := match Tryz.f28.body with | some c => c | none => .skip
noncomputable def Vb28 : FB := ⟨19, Vc28, [.tmp 2], (.nd .lf none (.nd (.nd .lf (some [.rd 0, .rd 1, .rd 2, .ld 3, .rd 5, .rd 6, .rd 7, .rd 8, .ld 9, .eff 4, .fg 3 [4], .eff 10, .eff 11, .fg 9 [11]]) .lf) none .lf))⟩
theorem Vbd28 : BdOK Tryz.prog 28 Vb28 := ⟨⟨_, Tryz.func28, by kernel_rfl, by exact Tryz.ntmps28, by kernel_rfl⟩, by kernel_rfl, Tryz.call28⟩
noncomputable def Vc29 : Code := match Tryz.f29.body with | some c => c | none => .skip
noncomputable def Vb29 : FB := ⟨35, Vc29, [.cell 2 60, .tmp 3], (.nd (.nd .lf none (.nd .lf (some [.rd 0, .ld 1, .rd 2, .eff 3, .eff 4, .eff 5, .fg 1 [5], .rd 6, .eff 7]) .lf)) none .lf)⟩
theorem Vbd29 : BdOK Tryz.prog 29 Vb29 := ⟨⟨_, Tryz.func29, by kernel_rfl, by exact Tryz.ntmps29, by kernel_rfl⟩, by kernel_rfl, Tryz.call29⟩
noncomputable def Vc30 : Code := match Tryz.f30.body with | some c => c | none => .skip
noncomputable def Vb30 : FB := ⟨5, Vc30, [], .lf⟩
theorem Vbd30 : BdOK Tryz.prog 30 Vb30 := ⟨⟨_, Tryz.func30, by kernel_rfl, by exact Tryz.ntmps30, by kernel_rfl⟩, by kernel_rfl, Tryz.call30⟩
noncomputable def Vc31 : Code := match Tryz.f31.body with | some c => c | none => .skip
noncomputable def Vb31 : FB := ⟨99, Vc31, [.tmp 6, .tmp 7, .tmp 8], (.nd .lf none (.nd (.nd .lf (some [.rd 0, .rd 1, .rd 2, .rd 3, .ld 4, .rd 5, .rd 6, .rd 7, .rd 8, .rd 9, .ld 10, .rd 11]) .lf) none .lf))⟩
theorem Vbd31 : BdOK Tryz.prog 31 Vb31 := ⟨⟨_, Tryz.func31, by kernel_rfl, by exact Tryz.ntmps31, by kernel_rfl⟩, by kernel_rfl, Tryz.call31⟩
noncomputable def Vc32 : Code := match Tryz.f32.body with | some c => c | none => .skip
noncomputable def Vb32 : FB := ⟨12, Vc32, [.cell 2 36], .lf⟩
theorem Vbd32 : BdOK Tryz.prog 32 Vb32 := ⟨⟨_, Tryz.func32, by kernel_rfl, by exact Tryz.ntmps32, by kernel_rfl⟩, by kernel_rfl, Tryz.call32⟩
noncomputable def Vc33 : Code := match Tryz.f33.body with | some c => c | none => .skip
noncomputable def Vb33 : FB := ⟨9, Vc33, [], .lf⟩
theorem Vbd33 : BdOK Tryz.prog 33 Vb33 := ⟨⟨_, Tryz.func33, by kernel_rfl, by exact Tryz.ntmps33, by kernel_rfl⟩, by kernel_rfl, Tryz.call33⟩
noncomputable def Vc34 : Code := match Tryz.f34.body with | some c => c | none => .skip
noncomputable def Vb34 : FB := ⟨19, Vc34, [.cell 8 38], .lf⟩
theorem Vbd34 : BdOK Tryz.prog 34 Vb34 := ⟨⟨_, Tryz.func34, by kernel_rfl, by exact Tryz.ntmps34, by kernel_rfl⟩, by kernel_rfl, Tryz.call34⟩
noncomputable def Vc35 : Code := match Tryz.f35.body with | some c => c | none => .skip
noncomputable def Vb35 : FB := ⟨17, Vc35, [.tmp 4, .tmp 5], .lf⟩
theorem Vbd35 : BdOK Tryz.prog 35 Vb35 := ⟨⟨_, Tryz.func35, by kernel_rfl, by exact Tryz.ntmps35, by kernel_rfl⟩, by kernel_rfl, Tryz.call35⟩
noncomputable def Vc36 : Code := match Tryz.f36.body with | some c => c | none => .skip
noncomputable def Vb36 : FB := ⟨67, Vc36, [.tmp 4], (.nd (.nd (.nd (.nd .lf (some [.rd 0, .rd 1, .rd 2, .ld 3, .rd 4, .rd 5, .rd 6, .ld 7, .rd 8, .rd 9, .rd 10, .ld 11, .rd 12, .rd 13, .rd 14, .ld 15, .rd 16, .rd 17, .eff 18, .fg 3 [18], .fg 7 [18], .fg 11 [18, 17], .fg 15 [18, 17, 16], .rd 19]) .lf) none .lf) none .lf) none .lf)⟩
theorem Vbd36 : BdOK Tryz.prog 36 Vb36 := ⟨⟨_, Tryz.func36, by kernel_rfl, by exact Tryz.ntmps36, by kernel_rfl⟩, by kernel_rfl, Tryz.call36⟩
noncomputable def Vc37 : Code := match Tryz.f37.body with | some c => c | none => .skip
noncomputable def Vb37 : FB := ⟨60, Vc37, [.tmp 2, .tmp 3], (.nd (.nd .lf none (.nd .lf (some [.rd 0, .rd 1, .rd 2, .ld 3, .rd 4, .rd 5, .rd 6, .ld 7, .rd 8, .rd 9, .rd 10, .ld 11, .rd 12, .rd 13, .rd 14, .ld 15, .rd 16, .eff 17, .fg 3 [17], .fg 7 [17], .fg 11 [17, 16], .fg 15 [17, 16], .rd 18]) .lf)) none .lf)⟩
theorem Vbd37 : BdOK Tryz.prog 37 Vb37 := ⟨⟨_, Tryz.func37, by kernel_rfl, by exact Tryz.ntmps37, by kernel_rfl⟩, by kernel_rfl, Tryz.call37⟩
noncomputable def Vc38 : Code := match Tryz.f38.body with | some c => c | none => .skip
noncomputable def Vb38 : FB := ⟨32, Vc38, [.tmp 6], .lf⟩
theorem Vbd38 : BdOK Tryz.prog 38 Vb38 := ⟨⟨_, Tryz.func38, by kernel_rfl, by exact Tryz.ntmps38, by kernel_rfl⟩, by kernel_rfl, Tryz.call38⟩
noncomputable def Vc39 : Code := match Tryz.f39.body with | some c => c | none => .skip
noncomputable def Vb39 : FB := ⟨26, Vc39, [.tmp 4], (.nd .lf none (.nd .lf none (.nd .lf (some [.rd 0, .rd 1, .rd 2, .ld 3, .rd 4, .rd 5, .rd 6, .ld 7, .rd 8]) .lf)))⟩
theorem Vbd39 : BdOK Tryz.prog 39 Vb39 := ⟨⟨_, Tryz.func39, by kernel_rfl, by exact Tryz.ntmps39, by kernel_rfl⟩, by kernel_rfl, Tryz.call39⟩
noncomputable def Vc40 : Code := match Tryz.f40.body with | some c => c | none => .skip
noncomputable def Vb40 : FB := ⟨12, Vc40, [.tmp 2, .tmp 3], .lf⟩
theorem Vbd40 : BdOK Tryz.prog 40 Vb40 := ⟨⟨_, Tryz.func40, by kernel_rfl, by exact Tryz.ntmps40, by kernel_rfl⟩, by kernel_rfl, Tryz.call40⟩
noncomputable def Vc41 : Code := match Tryz.f41.body with | some c => c | none => .skip
noncomputable def Vb41 : FB := ⟨12, Vc41, [.tmp 2], .lf⟩
theorem Vbd41 : BdOK Tryz.prog 41 Vb41 := ⟨⟨_, Tryz.func41, by kernel_rfl, by exact Tryz.ntmps41, by kernel_rfl⟩, by kernel_rfl, Tryz.call41⟩
noncomputable def Vc42 : Code := match Tryz.f42.body with | some c => c | none => .skip
noncomputable def Vb42 : FB := ⟨29, Vc42, [.tmp 2, .tmp 3], .lf⟩
theorem Vbd42 : BdOK Tryz.prog 42 Vb42 := ⟨⟨_, Tryz.func42, by kernel_rfl, by exact Tryz.ntmps42, by kernel_rfl⟩, by kernel_rfl, Tryz.call42⟩
noncomputable def Vc43 : Code := match Tryz.f43.body with | some c => c | none => .skip
noncomputable def Vb43 : FB := ⟨14, Vc43, [.tmp 2], (.nd (.nd .lf (some [.rd 0, .rd 1, .rd 2, .ld 3, .rd 4, .rd 5, .rd 6, .rd 7, .ld 8, .rd 9, .rd 10, .rd 11]) .lf) none .lf)⟩
theorem Vbd43 : BdOK Tryz.prog 43 Vb43 := ⟨⟨_, Tryz.func43, by kernel_rfl, by exact Tryz.ntmps43, by kernel_rfl⟩, by kernel_rfl, Tryz.call43⟩
noncomputable def Vc44 : Code := match Tryz.f44.body with | some c => c | none => .skip
noncomputable def Vb44 : FB := ⟨12, Vc44, [.tmp 2], (.nd (.nd .lf (some [.rd 0, .rd 3, .rd 4, .rd 5, .ld 6, .eff 1, .rd 2, .rd 7, .rd 8, .rd 9]) .lf) none .lf)⟩
theorem Vbd44 : BdOK Tryz.prog 44 Vb44 := ⟨⟨_, Tryz.func44, by kernel_rfl, by exact Tryz.ntmps44, by kernel_rfl⟩, by kernel_rfl, Tryz.call44⟩
noncomputable def Vc45 : Code := match Tryz.f45.body with | some c => c | none => .skip
noncomputable def Vb45 : FB := ⟨14, Vc45, [.tmp 2], (.nd (.nd .lf (some [.rd 0, .rd 1, .rd 2, .rd 3, .ld 4, .rd 5, .rd 6, .rd 7, .ld 8, .rd 9, .rd 10, .rd 11]) .lf) none .lf)⟩
theorem Vbd45 : BdOK Tryz.prog 45 Vb45 := ⟨⟨_, Tryz.func45, by kernel_rfl, by exact Tryz.ntmps45, by kernel_rfl⟩, by kernel_rfl, Tryz.call45⟩
noncomputable def Vc46 : Code := match Tryz.f46.body with | some c => c | none => .skip
noncomputable def Vb46 : FB := ⟨8, Vc46, [.tmp 2], .lf⟩
theorem Vbd46 : BdOK Tryz.prog 46 Vb46 := ⟨⟨_, Tryz.func46, by kernel_rfl, by exact Tryz.ntmps46, by kernel_rfl⟩, by kernel_rfl, Tryz.call46⟩
noncomputable def Vc47 : Code := match Tryz.f47.body with | some c => c | none => .skip
noncomputable def Vb47 : FB := ⟨64, Vc47, [.tmp 8, .tmp 9], (.nd .lf none (.nd (.nd .lf (some [.rd 0, .rd 1, .rd 3, .rd 4, .rd 6, .rd 7, .rd 9, .rd 10, .rd 11, .rd 13, .rd 14, .rd 15, .rd 16, .rd 19, .pend 17, .eff 2, .eff 5, .eff 8, .eff 12, .mrg 17, .rd 18]) .lf) none .lf))⟩
theorem Vbd47 : BdOK Tryz.prog 47 Vb47 := ⟨⟨_, Tryz.func47, by kernel_rfl, by exact Tryz.ntmps47, by kernel_rfl⟩, by kernel_rfl, Tryz.call47⟩
noncomputable def Vc48 : Code := match Tryz.f48.body with | some c => c | none => .skip
noncomputable def Vb48 : FB := ⟨34, Vc48, [.tmp 6], (.nd (.nd (.nd (.nd .lf (some [.rd 0, .rd 1, .rd 2, .ld 3, .rd 4, .rd 5, .eff 6, .eff 7, .fg 3 [7]]) .lf) none .lf) none .lf) none .lf)⟩
theorem Vbd48 : BdOK Tryz.prog 48 Vb48 := ⟨⟨_, Tryz.func48, by kernel_rfl, by exact Tryz.ntmps48, by kernel_rfl⟩, by kernel_rfl, Tryz.call48⟩
noncomputable def Vc49 : Code := match Tryz.f49.body with | some c => c | none => .skip
noncomputable def Vb49 : FB := ⟨40, Vc49, [.tmp 2], .lf⟩
theorem Vbd49 : BdOK Tryz.prog 49 Vb49 := ⟨⟨_, Tryz.func49, by kernel_rfl, by exact Tryz.ntmps49, by kernel_rfl⟩, by kernel_rfl, Tryz.call49⟩
noncomputable def Vc50 : Code := match Tryz.f50.body with | some c => c | none => .skip
noncomputable def Vb50 : FB := ⟨26, Vc50, [.tmp 4], (.nd .lf none (.nd .lf none (.nd .lf (some [.rd 0, .rd 1, .rd 2, .ld 3, .rd 4, .rd 5, .rd 6, .ld 7, .rd 8]) .lf)))⟩
theorem Vbd50 : BdOK Tryz.prog 50 Vb50 := ⟨⟨_, Tryz.func50, by kernel_rfl, by exact Tryz.ntmps50, by kernel_rfl⟩, by kernel_rfl, Tryz.call50⟩
noncomputable def Vc51 : Code := match Tryz.f51.body with | some c => c | none => .skip
noncomputable def Vb51 : FB := ⟨12, Vc51, [.tmp 2], .lf⟩
theorem Vbd51 : BdOK Tryz.prog 51 Vb51 := ⟨⟨_, Tryz.func51, by kernel_rfl, by exact Tryz.ntmps51, by kernel_rfl⟩, by kernel_rfl, Tryz.call51⟩
noncomputable def Vc52 : Code := match Tryz.f52.body with | some c => c | none => .skip
noncomputable def Vb52 : FB := ⟨53, Vc52, [.cell 4 122, .cell 5 123], (.nd (.nd .lf none (.nd .lf none (.nd .lf (some [.ld 0, .ld 1, .eff 2, .fg 0 [2], .eff 3, .fg 1 [3]]) .lf))) none .lf)⟩
theorem Vbd52 : BdOK Tryz.prog 52 Vb52 := ⟨⟨_, Tryz.func52, by kernel_rfl, by exact Tryz.ntmps52, by kernel_rfl⟩, by kernel_rfl, Tryz.call52⟩
noncomputable def Vc53 : Code := match Tryz.f53.body with | some c => c | none => .skip
noncomputable def Vb53 : FB := ⟨12, Vc53, [.tmp 4], (.nd (.nd (.nd .lf (some [.ld 0, .rd 1, .eff 2, .eff 3, .fg 0 [3], .rd 4]) .lf) none .lf) none .lf)⟩
theorem Vbd53 : BdOK Tryz.prog 53 Vb53 := ⟨⟨_, Tryz.func53, by kernel_rfl, by exact Tryz.ntmps53, by kernel_rfl⟩, by kernel_rfl, Tryz.call53⟩
noncomputable def Vc54 : Code := match Tryz.f54.body with | some c => c | none => .skip
noncomputable def Vb54 : FB := ⟨80, Vc54, [.cell 6 129, .tmp 7], .lf⟩
theorem Vbd54 : BdOK Tryz.prog 54 Vb54 := ⟨⟨_, Tryz.func54, by kernel_rfl, by exact Tryz.ntmps54, by kernel_rfl⟩, by kernel_rfl, Tryz.call54⟩
noncomputable def Vc55 : Code := match Tryz.f55.body with | some c => c | none => .skip
noncomputable def Vb55 : FB := ⟨9, Vc55, [.tmp 2], .lf⟩
theorem Vbd55 : BdOK Tryz.prog 55 Vb55 := ⟨⟨_, Tryz.func55, by kernel_rfl, by exact Tryz.ntmps55, by kernel_rfl⟩, by kernel_rfl, Tryz.call55⟩
noncomputable def Vc56 : Code := match Tryz.f56.body with | some c => c | none => .skip
noncomputable def Vb56 : FB := ⟨51, Vc56, [.tmp 6, .tmp 7], .lf⟩
theorem Vbd56 : BdOK Tryz.prog 56 Vb56 := ⟨⟨_, Tryz.func56, by kernel_rfl, by exact Tryz.ntmps56, by kernel_rfl⟩, by kernel_rfl, Tryz.call56⟩
noncomputable def Vc57 : Code := match Tryz.f57.body with | some c => c | none => .skip
noncomputable def Vb57 : FB := ⟨8, Vc57, [.tmp 6], .lf⟩
theorem Vbd57 : BdOK Tryz.prog 57 Vb57 := ⟨⟨_, Tryz.func57, by kernel_rfl, by exact Tryz.ntmps57, by kernel_rfl⟩, by kernel_rfl, Tryz.call57⟩
noncomputable def Vc58 : Code := match Tryz.f58.body with | some c => c | none => .skip
noncomputable def Vb58 : FB := ⟨70, Vc58, [.tmp 2, .tmp 3, .tmp 4], .lf⟩
theorem Vbd58 : BdOK Tryz.prog 58 Vb58 := ⟨⟨_, Tryz.func58, by kernel_rfl, by exact Tryz.ntmps58, by kernel_rfl⟩, by kernel_rfl, Tryz.call58⟩
noncomputable def Vc59 : Code := match Tryz.f59.body with | some c => c | none => .skip
noncomputable def Vb59 : FB := ⟨8, Vc59, [.tmp 2], .lf⟩
theorem Vbd59 : BdOK Tryz.prog 59 Vb59 := ⟨⟨_, Tryz.func59, by kernel_rfl, by exact Tryz.ntmps59, by kernel_rfl⟩, by kernel_rfl, Tryz.call59⟩
noncomputable def Vc60 : Code := match Tryz.f60.body with | some c => c | none => .skip
noncomputable def Vb60 : FB := ⟨23, Vc60, [], (.nd (.nd (.nd .lf (some [.rd 0, .ld 1, .rd 2, .rd 3, .rd 4, .ld 5, .eff 6, .fg 5 [6], .eff 7, .fg 1 [7, 3], .rd 8]) .lf) none .lf) none .lf)⟩
theorem Vbd60 : BdOK Tryz.prog 60 Vb60 := ⟨⟨_, Tryz.func60, by kernel_rfl, by exact Tryz.ntmps60, by kernel_rfl⟩, by kernel_rfl, Tryz.call60⟩
noncomputable def Vc61 : Code := match Tryz.f61.body with | some c => c | none => .skip
noncomputable def Vb61 : FB := ⟨5, Vc61, [.tmp 2], .lf⟩
theorem Vbd61 : BdOK Tryz.prog 61 Vb61 := ⟨⟨_, Tryz.func61, by kernel_rfl, by exact Tryz.ntmps61, by kernel_rfl⟩, by kernel_rfl, Tryz.call61⟩
noncomputable def Vc62 : Code := match Tryz.f62.body with | some c => c | none => .skip
noncomputable def Vb62 : FB := ⟨31, Vc62, [.tmp 4], .lf⟩
theorem Vbd62 : BdOK Tryz.prog 62 Vb62 := ⟨⟨_, Tryz.func62, by kernel_rfl, by exact Tryz.ntmps62, by kernel_rfl⟩, by kernel_rfl, Tryz.call62⟩
noncomputable def Vc63 : Code := match Tryz.f63.body with | some c => c | none => .skip
noncomputable def Vb63 : FB := ⟨22, Vc63, [.cell 2 57], .lf⟩
theorem Vbd63 : BdOK Tryz.prog 63 Vb63 := ⟨⟨_, Tryz.func63, by kernel_rfl, by exact Tryz.ntmps63, by kernel_rfl⟩, by kernel_rfl, Tryz.call63⟩
noncomputable def Vc64 : Code := match Tryz.f64.body with | some c => c | none => .skip
noncomputable def Vb64 : FB := ⟨37, Vc64, [.tmp 4], (.nd .lf none (.nd .lf (some [.rd 0, .rd 1, .rd 2, .ld 3, .rd 4, .rd 5, .rd 6, .ld 7, .rd 8, .rd 9]) .lf))⟩
theorem Vbd64 : BdOK Tryz.prog 64 Vb64 := ⟨⟨_, Tryz.func64, by kernel_rfl, by exact Tryz.ntmps64, by kernel_rfl⟩, by kernel_rfl, Tryz.call64⟩
noncomputable def Vc65 : Code := match Tryz.f65.body with | some c => c | none => .skip
noncomputable def Vb65 : FB := ⟨8, Vc65, [.tmp 2], .lf⟩
theorem Vbd65 : BdOK Tryz.prog 65 Vb65 := ⟨⟨_, Tryz.func65, by kernel_rfl, by exact Tryz.ntmps65, by kernel_rfl⟩, by kernel_rfl, Tryz.call65⟩
noncomputable def Vc66 : Code := match Tryz.f66.body with | some c => c | none => .skip
noncomputable def Vb66 : FB := ⟨53, Vc66, [.tmp 2], (.nd .lf none (.nd .lf none (.nd .lf (some [.ld 0, .rd 2, .rd 3, .eff 1, .fg 0 [1], .rd 4, .rd 5, .ld 6, .rd 7, .ld 8, .rd 9, .rd 10, .rd 11, .rd 12, .ld 13, .rd 14, .rd 15, .eff 16, .fg 6 [16, 15, 14], .fg 8 [16, 15, 14, 13, 12, 11], .fg 13 [16, 15, 14], .eff 17, .eff 18, .rd 19]) .lf)))⟩
theorem Vbd66 : BdOK Tryz.prog 66 Vb66 := ⟨⟨_, Tryz.func66, by kernel_rfl, by exact Tryz.ntmps66, by kernel_rfl⟩, by kernel_rfl, Tryz.call66⟩
noncomputable def Vc67 : Code := match Tryz.f67.body with | some c => c | none => .skip
noncomputable def Vb67 : FB := ⟨11, Vc67, [.tmp 4, .tmp 5], .lf⟩
theorem Vbd67 : BdOK Tryz.prog 67 Vb67 := ⟨⟨_, Tryz.func67, by kernel_rfl, by exact Tryz.ntmps67, by kernel_rfl⟩, by kernel_rfl, Tryz.call67⟩
noncomputable def Vc68 : Code := match Tryz.f68.body with | some c => c | none => .skip
noncomputable def Vb68 : FB := ⟨33, Vc68, [.tmp 6], (.nd (.nd .lf none (.nd .lf (some [.rd 0, .rd 1, .rd 2, .rd 3, .rd 4, .rd 5, .eff 6, .rd 7]) .lf)) none .lf)⟩
theorem Vbd68 : BdOK Tryz.prog 68 Vb68 := ⟨⟨_, Tryz.func68, by kernel_rfl, by exact Tryz.ntmps68, by kernel_rfl⟩, by kernel_rfl, Tryz.call68⟩
noncomputable def Vc69 : Code := match Tryz.f69.body with | some c => c | none => .skip
noncomputable def Vb69 : FB := ⟨95, Vc69, [.tmp 6], (.nd (.nd (.nd (.nd (.nd .lf (some [.rd 0, .rd 1, .rd 2, .rd 3, .rd 4, .rd 5, .rd 6, .rd 7, .eff 8]) .lf) none .lf) none (.nd .lf (some [.rd 0, .rd 1, .rd 2, .rd 3, .rd 4, .rd 5, .rd 6, .rd 7, .eff 8]) .lf)) none .lf) none .lf)⟩
theorem Vbd69 : BdOK Tryz.prog 69 Vb69 := ⟨⟨_, Tryz.func69, by kernel_rfl, by exact Tryz.ntmps69, by kernel_rfl⟩, by kernel_rfl, Tryz.call69⟩
noncomputable def Vc70 : Code := match Tryz.f70.body with | some c => c | none => .skip
noncomputable def Vb70 : FB := ⟨56, Vc70, [.cell 6 36], .lf⟩
theorem Vbd70 : BdOK Tryz.prog 70 Vb70 := ⟨⟨_, Tryz.func70, by kernel_rfl, by exact Tryz.ntmps70, by kernel_rfl⟩, by kernel_rfl, Tryz.call70⟩
noncomputable def Vc71 : Code := match Tryz.f71.body with | some c => c | none => .skip
noncomputable def Vb71 : FB := ⟨12, Vc71, [.tmp 2], .lf⟩
theorem Vbd71 : BdOK Tryz.prog 71 Vb71 := ⟨⟨_, Tryz.func71, by kernel_rfl, by exact Tryz.ntmps71, by kernel_rfl⟩, by kernel_rfl, Tryz.call71⟩
noncomputable def Vc72 : Code := match Tryz.f72.body with | some c => c | none => .skip
noncomputable def Vb72 : FB := ⟨75, Vc72, [.tmp 6], .lf⟩
theorem Vbd72 : BdOK Tryz.prog 72 Vb72 := ⟨⟨_, Tryz.func72, by kernel_rfl, by exact Tryz.ntmps72, by kernel_rfl⟩, by kernel_rfl, Tryz.call72⟩
noncomputable def Vc73 : Code := match Tryz.f73.body with | some c => c | none => .skip
noncomputable def Vb73 : FB := ⟨28, Vc73, [.tmp 2, .tmp 3], .lf⟩
theorem Vbd73 : BdOK Tryz.prog 73 Vb73 := ⟨⟨_, Tryz.func73, by kernel_rfl, by exact Tryz.ntmps73, by kernel_rfl⟩, by kernel_rfl, Tryz.call73⟩
noncomputable def Vc74 : Code := match Tryz.f74.body with | some c => c | none => .skip
noncomputable def Vb74 : FB := ⟨10, Vc74, [.tmp 4], .lf⟩
theorem Vbd74 : BdOK Tryz.prog 74 Vb74 := ⟨⟨_, Tryz.func74, by kernel_rfl, by exact Tryz.ntmps74, by kernel_rfl⟩, by kernel_rfl, Tryz.call74⟩
noncomputable def Vc75 : Code := match Tryz.f75.body with | some c => c | none => .skip
noncomputable def Vb75 : FB := ⟨36, Vc75, [.tmp 2], .lf⟩
theorem Vbd75 : BdOK Tryz.prog 75 Vb75 := ⟨⟨_, Tryz.func75, by kernel_rfl, by exact Tryz.ntmps75, by kernel_rfl⟩, by kernel_rfl, Tryz.call75⟩
noncomputable def Vc76 : Code := match Tryz.f76.body with | some c => c | none => .skip
noncomputable def Vb76 : FB := ⟨54, Vc76, [.tmp 4], .lf⟩
theorem Vbd76 : BdOK Tryz.prog 76 Vb76 := ⟨⟨_, Tryz.func76, by kernel_rfl, by exact Tryz.ntmps76, by kernel_rfl⟩, by kernel_rfl, Tryz.call76⟩
noncomputable def Vc77 : Code := match Tryz.f77.body with | some c => c | none => .skip
noncomputable def Vb77 : FB := ⟨10, Vc77, [.cell 2 36], .lf⟩
theorem Vbd77 : BdOK Tryz.prog 77 Vb77 := ⟨⟨_, Tryz.func77, by kernel_rfl, by exact Tryz.ntmps77, by kernel_rfl⟩, by kernel_rfl, Tryz.call77⟩
noncomputable def Vc78 : Code := match Tryz.f78.body with | some c => c | none => .skip
noncomputable def Vb78 : FB := ⟨9, Vc78, [.tmp 2], .lf⟩
theorem Vbd78 : BdOK Tryz.prog 78 Vb78 := ⟨⟨_, Tryz.func78, by kernel_rfl, by exact Tryz.ntmps78, by kernel_rfl⟩, by kernel_rfl, Tryz.call78⟩
noncomputable def Vc79 : Code := match Tryz.f79.body with | some c => c | none => .skip
noncomputable def Vb79 : FB := ⟨18, Vc79, [.tmp 4], .lf⟩
theorem Vbd79 : BdOK Tryz.prog 79 Vb79 := ⟨⟨_, Tryz.func79, by kernel_rfl, by exact Tryz.ntmps79, by kernel_rfl⟩, by kernel_rfl, Tryz.call79⟩
noncomputable def Vc80 : Code := match Tryz.f80.body with | some c => c | none => .skip
noncomputable def Vb80 : FB := ⟨25, Vc80, [.tmp 4], .lf⟩
theorem Vbd80 : BdOK Tryz.prog 80 Vb80 := ⟨⟨_, Tryz.func80, by kernel_rfl, by exact Tryz.ntmps80, by kernel_rfl⟩, by kernel_rfl, Tryz.call80⟩
noncomputable def Vc81 : Code := match Tryz.f81.body with | some c => c | none => .skip
noncomputable def Vb81 : FB := ⟨27, Vc81, [.tmp 2], .lf⟩
theorem Vbd81 : BdOK Tryz.prog 81 Vb81 := ⟨⟨_, Tryz.func81, by kernel_rfl, by exact Tryz.ntmps81, by kernel_rfl⟩, by kernel_rfl, Tryz.call81⟩
noncomputable def Vc82 : Code := match Tryz.f82.body with | some c => c | none => .skip
noncomputable def Vb82 : FB := ⟨50, Vc82, [], (.nd .lf none (.nd (.nd .lf (some [.rd 0, .rd 1, .rd 2, .ld 3, .rd 4, .rd 5, .rd 6, .rd 7, .ld 8, .rd 9, .ld 10, .rd 11, .eff 12, .fg 3 [12], .fg 8 [12], .fg 10 [12]]) .lf) none .lf))⟩
theorem Vbd82 : BdOK Tryz.prog 82 Vb82 := ⟨⟨_, Tryz.func82, by kernel_rfl, by exact Tryz.ntmps82, by kernel_rfl⟩, by kernel_rfl, Tryz.call82⟩
noncomputable def Vc83 : Code := match Tryz.f83.body with | some c => c | none => .skip
noncomputable def Vb83 : FB := ⟨21, Vc83, [.tmp 4, .tmp 5], .lf⟩
theorem Vbd83 : BdOK Tryz.prog 83 Vb83 := ⟨⟨_, Tryz.func83, by kernel_rfl, by exact Tryz.ntmps83, by kernel_rfl⟩, by kernel_rfl, Tryz.call83⟩
noncomputable def Vc84 : Code := match Tryz.f84.body with | some c => c | none => .skip
noncomputable def Vb84 : FB := ⟨47, Vc84, [.cell 2 38, .tmp 3], .lf⟩
theorem Vbd84 : BdOK Tryz.prog 84 Vb84 := ⟨⟨_, Tryz.func84, by kernel_rfl, by exact Tryz.ntmps84, by kernel_rfl⟩, by kernel_rfl, Tryz.call84⟩
noncomputable def Vc85 : Code := match Tryz.f85.body with | some c => c | none => .skip
noncomputable def Vb85 : FB := ⟨42, Vc85, [.cell 2 129, .tmp 3], (.nd (.nd .lf none (.nd .lf (some [.rd 0, .ld 1, .rd 2, .rd 4, .rd 6, .eff 3, .eff 5, .eff 7, .rd 8, .eff 9, .eff 10, .fg 1 [10], .rd 11, .eff 12]) .lf)) none .lf)⟩
theorem Vbd85 : BdOK Tryz.prog 85 Vb85 := ⟨⟨_, Tryz.func85, by kernel_rfl, by exact Tryz.ntmps85, by kernel_rfl⟩, by kernel_rfl, Tryz.call85⟩
noncomputable def Vc86 : Code := match Tryz.f86.body with | some c => c | none => .skip
noncomputable def Vb86 : FB := ⟨71, Vc86, [.tmp 2, .tmp 3, .tmp 4, .tmp 5, .tmp 6], (.nd (.nd (.nd .lf (some [.rd 0, .rd 1, .rd 5, .rd 6, .eff 2, .eff 3, .rd 4, .eff 7, .rd 8]) .lf) none (.nd .lf (some [.rd 0, .rd 1, .rd 4, .rd 5, .rd 8, .rd 9, .rd 12, .rd 13, .eff 2, .rd 3, .eff 6, .rd 7, .eff 10, .rd 11, .eff 14, .rd 15, .rd 16, .rd 17, .rd 18, .rd 19]) .lf)) none .lf)⟩
theorem Vbd86 : BdOK Tryz.prog 86 Vb86 := ⟨⟨_, Tryz.func86, by kernel_rfl, by exact Tryz.ntmps86, by kernel_rfl⟩, by kernel_rfl, Tryz.call86⟩
noncomputable def Vc87 : Code := match Tryz.f87.body with | some c => c | none => .skip
noncomputable def Vb87 : FB := ⟨53, Vc87, [], (.nd (.nd (.nd .lf (some [.ld 0, .ld 1, .rd 2, .rd 3, .ld 4, .rd 5, .rd 6, .rd 7, .ld 8, .eff 9, .eff 10, .fg 0 [10], .fg 1 [10], .fg 4 [10], .fg 8 [10]]) .lf) none .lf) none .lf)⟩
theorem Vbd87 : BdOK Tryz.prog 87 Vb87 := ⟨⟨_, Tryz.func87, by kernel_rfl, by exact Tryz.ntmps87, by kernel_rfl⟩, by kernel_rfl, Tryz.call87⟩
noncomputable def Vc88 : Code := match Tryz.f88.body with | some c => c | none => .skip
noncomputable def Vb88 : FB := ⟨74, Vc88, [.tmp 2, .tmp 3, .tmp 4], .lf⟩
theorem Vbd88 : BdOK Tryz.prog 88 Vb88 := ⟨⟨_, Tryz.func88, by kernel_rfl, by exact Tryz.ntmps88, by kernel_rfl⟩, by kernel_rfl, Tryz.call88⟩
noncomputable def Vc89 : Code := match Tryz.f89.body with | some c => c | none => .skip
noncomputable def Vb89 : FB := ⟨46, Vc89, [.tmp 4], (.nd .lf none (.nd (.nd .lf (some [.rd 0, .rd 1, .rd 2, .rd 3, .ld 4, .rd 5, .rd 6, .rd 7, .ld 8, .rd 9, .eff 10, .fg 4 [10, 9], .fg 8 [10, 9], .rd 11, .rd 12, .rd 13, .rd 14, .rd 15, .rd 16, .rd 17]) .lf) none .lf))⟩
theorem Vbd89 : BdOK Tryz.prog 89 Vb89 := ⟨⟨_, Tryz.func89, by kernel_rfl, by exact Tryz.ntmps89, by kernel_rfl⟩, by kernel_rfl, Tryz.call89⟩
noncomputable def Vc90 : Code := match Tryz.f90.body with | some c => c | none => .skip
noncomputable def Vb90 : FB := ⟨5, Vc90, [.tmp 2], .lf⟩
theorem Vbd90 : BdOK Tryz.prog 90 Vb90 := ⟨⟨_, Tryz.func90, by kernel_rfl, by exact Tryz.ntmps90, by kernel_rfl⟩, by kernel_rfl, Tryz.call90⟩
noncomputable def Vc91 : Code := match Tryz.f91.body with | some c => c | none => .skip
noncomputable def Vb91 : FB := ⟨5, Vc91, [.tmp 2], .lf⟩
theorem Vbd91 : BdOK Tryz.prog 91 Vb91 := ⟨⟨_, Tryz.func91, by kernel_rfl, by exact Tryz.ntmps91, by kernel_rfl⟩, by kernel_rfl, Tryz.call91⟩
noncomputable def Vc92 : Code := match Tryz.f92.body with | some c => c | none => .skip
noncomputable def Vb92 : FB := ⟨20, Vc92, [.tmp 2], (.nd (.nd .lf (some [.rd 0, .ld 1, .rd 3, .ld 4, .rd 6, .ld 7, .rd 8, .eff 2, .fg 1 [2], .eff 5, .fg 4 [5], .rd 9, .rd 10, .ld 11, .rd 12, .rd 13, .eff 14, .fg 7 [14, 9, 8], .fg 11 [14, 13, 12], .eff 15, .eff 16, .rd 17]) .lf) none .lf)⟩
theorem Vbd92 : BdOK Tryz.prog 92 Vb92 := ⟨⟨_, Tryz.func92, by kernel_rfl, by exact Tryz.ntmps92, by kernel_rfl⟩, by kernel_rfl, Tryz.call92⟩
noncomputable def Vc93 : Code := match Tryz.f93.body with | some c => c | none => .skip
noncomputable def Vb93 : FB := ⟨12, Vc93, [.tmp 4], .lf⟩
theorem Vbd93 : BdOK Tryz.prog 93 Vb93 := ⟨⟨_, Tryz.func93, by kernel_rfl, by exact Tryz.ntmps93, by kernel_rfl⟩, by kernel_rfl, Tryz.call93⟩
noncomputable def Vc94 : Code := match Tryz.f94.body with | some c => c | none => .skip
noncomputable def Vb94 : FB := ⟨15, Vc94, [.tmp 2], .lf⟩
theorem Vbd94 : BdOK Tryz.prog 94 Vb94 := ⟨⟨_, Tryz.func94, by kernel_rfl, by exact Tryz.ntmps94, by kernel_rfl⟩, by kernel_rfl, Tryz.call94⟩
noncomputable def Vc95 : Code := match Tryz.f95.body with | some c => c | none => .skip
noncomputable def Vb95 : FB := ⟨4, Vc95, [.tmp 2], .lf⟩
theorem Vbd95 : BdOK Tryz.prog 95 Vb95 := ⟨⟨_, Tryz.func95, by kernel_rfl, by exact Tryz.ntmps95, by kernel_rfl⟩, by kernel_rfl, Tryz.call95⟩
noncomputable def Vc96 : Code := match Tryz.f96.body with | some c => c | none => .skip
noncomputable def Vb96 : FB := ⟨49, Vc96, [.tmp 6, .tmp 7], .lf⟩
theorem Vbd96 : BdOK Tryz.prog 96 Vb96 := ⟨⟨_, Tryz.func96, by kernel_rfl, by exact Tryz.ntmps96, by kernel_rfl⟩, by kernel_rfl, Tryz.call96⟩
noncomputable def Vc97 : Code := match Tryz.f97.body with | some c => c | none => .skip
noncomputable def Vb97 : FB := ⟨9, Vc97, [.tmp 4], .lf⟩
theorem Vbd97 : BdOK Tryz.prog 97 Vb97 := ⟨⟨_, Tryz.func97, by kernel_rfl, by exact Tryz.ntmps97, by kernel_rfl⟩, by kernel_rfl, Tryz.call97⟩
noncomputable def Vc98 : Code := match Tryz.f98.body with | some c => c | none => .skip
noncomputable def Vb98 : FB := ⟨8, Vc98, [.tmp 4], .lf⟩
theorem Vbd98 : BdOK Tryz.prog 98 Vb98 := ⟨⟨_, Tryz.func98, by kernel_rfl, by exact Tryz.ntmps98, by kernel_rfl⟩, by kernel_rfl, Tryz.call98⟩
noncomputable def Vc100 : Code := match Tryz.f100.body with | some c => c | none => .skip
noncomputable def Vb100 : FB := ⟨10, Vc100, [], .lf⟩
theorem Vbd100 : BdOK Tryz.prog 100 Vb100 := ⟨⟨_, Tryz.func100, by kernel_rfl, by exact Tryz.ntmps100, by kernel_rfl⟩, by kernel_rfl, Tryz.call100⟩
noncomputable def Vc101 : Code := match Tryz.f101.body with | some c => c | none => .skip
noncomputable def Vb101 : FB := ⟨10, Vc101, [.tmp 2, .tmp 3], .lf⟩
theorem Vbd101 : BdOK Tryz.prog 101 Vb101 := ⟨⟨_, Tryz.func101, by kernel_rfl, by exact Tryz.ntmps101, by kernel_rfl⟩, by kernel_rfl, Tryz.call101⟩
noncomputable def Vc102 : Code := match Tryz.f102.body with | some c => c | none => .skip
noncomputable def Vb102 : FB := ⟨10, Vc102, [.tmp 2, .tmp 3], .lf⟩
theorem Vbd102 : BdOK Tryz.prog 102 Vb102 := ⟨⟨_, Tryz.func102, by kernel_rfl, by exact Tryz.ntmps102, by kernel_rfl⟩, by kernel_rfl, Tryz.call102⟩
noncomputable def Vc103 : Code := match Tryz.f103.body with | some c => c | none => .skip
noncomputable def Vb103 : FB := ⟨9, Vc103, [.tmp 2], .lf⟩
theorem Vbd103 : BdOK Tryz.prog 103 Vb103 := ⟨⟨_, Tryz.func103, by kernel_rfl, by exact Tryz.ntmps103, by kernel_rfl⟩, by kernel_rfl, Tryz.call103⟩
noncomputable def Vc104 : Code := match Tryz.f104.body with | some c => c | none => .skip
noncomputable def Vb104 : FB := ⟨16, Vc104, [.tmp 2], .lf⟩
theorem Vbd104 : BdOK Tryz.prog 104 Vb104 := ⟨⟨_, Tryz.func104, by kernel_rfl, by exact Tryz.ntmps104, by kernel_rfl⟩, by kernel_rfl, Tryz.call104⟩
noncomputable def Vc105 : Code := match Tryz.f105.body with | some c => c | none => .skip
noncomputable def Vb105 : FB := ⟨18, Vc105, [.tmp 2], .lf⟩
theorem Vbd105 : BdOK Tryz.prog 105 Vb105 := ⟨⟨_, Tryz.func105, by kernel_rfl, by exact Tryz.ntmps105, by kernel_rfl⟩, by kernel_rfl, Tryz.call105⟩
noncomputable def Vc106 : Code := match Tryz.f106.body with | some c => c | none => .skip
noncomputable def Vb106 : FB := ⟨25, Vc106, [.tmp 4], .lf⟩
theorem Vbd106 : BdOK Tryz.prog 106 Vb106 := ⟨⟨_, Tryz.func106, by kernel_rfl, by exact Tryz.ntmps106, by kernel_rfl⟩, by kernel_rfl, Tryz.call106⟩
noncomputable def Vc107 : Code := match Tryz.f107.body with | some c => c | none => .skip
noncomputable def Vb107 : FB := ⟨38, Vc107, [.cell 2 38, .tmp 3], .lf⟩
theorem Vbd107 : BdOK Tryz.prog 107 Vb107 := ⟨⟨_, Tryz.func107, by kernel_rfl, by exact Tryz.ntmps107, by kernel_rfl⟩, by kernel_rfl, Tryz.call107⟩
noncomputable def Vc108 : Code := match Tryz.f108.body with | some c => c | none => .skip
noncomputable def Vb108 : FB := ⟨21, Vc108, [.tmp 2], .lf⟩
theorem Vbd108 : BdOK Tryz.prog 108 Vb108 := ⟨⟨_, Tryz.func108, by kernel_rfl, by exact Tryz.ntmps108, by kernel_rfl⟩, by kernel_rfl, Tryz.call108⟩
noncomputable def Vc109 : Code := match Tryz.f109.body with | some c => c | none => .skip
noncomputable def Vb109 : FB := ⟨9, Vc109, [.tmp 4], .lf⟩
theorem Vbd109 : BdOK Tryz.prog 109 Vb109 := ⟨⟨_, Tryz.func109, by kernel_rfl, by exact Tryz.ntmps109, by kernel_rfl⟩, by kernel_rfl, Tryz.call109⟩
noncomputable def Vc110 : Code := match Tryz.f110.body with | some c => c | none => .skip
noncomputable def Vb110 : FB := ⟨5, Vc110, [.tmp 2], .lf⟩
theorem Vbd110 : BdOK Tryz.prog 110 Vb110 := ⟨⟨_, Tryz.func110, by kernel_rfl, by exact Tryz.ntmps110, by kernel_rfl⟩, by kernel_rfl, Tryz.call110⟩
noncomputable def Vc111 : Code := match Tryz.f111.body with | some c => c | none => .skip
noncomputable def Vb111 : FB := ⟨46, Vc111, [.tmp 4], (.nd .lf none (.nd (.nd .lf (some [.rd 0, .rd 1, .rd 2, .rd 3, .ld 4, .rd 5, .rd 6, .rd 7, .ld 8, .rd 9, .eff 10, .fg 4 [10, 9], .fg 8 [10, 9], .rd 11, .rd 12, .rd 13, .rd 14, .rd 15, .rd 16, .rd 17]) .lf) none .lf))⟩
theorem Vbd111 : BdOK Tryz.prog 111 Vb111 := ⟨⟨_, Tryz.func111, by kernel_rfl, by exact Tryz.ntmps111, by kernel_rfl⟩, by kernel_rfl, Tryz.call111⟩
noncomputable def Vc112 : Code := match Tryz.f112.body with | some c => c | none => .skip
noncomputable def Vb112 : FB := ⟨38, Vc112, [.tmp 2, .tmp 3, .tmp 4], .lf⟩
theorem Vbd112 : BdOK Tryz.prog 112 Vb112 := ⟨⟨_, Tryz.func112, by kernel_rfl, by exact Tryz.ntmps112, by kernel_rfl⟩, by kernel_rfl, Tryz.call112⟩
noncomputable def Vc113 : Code := match Tryz.f113.body with | some c => c | none => .skip
noncomputable def Vb113 : FB := ⟨46, Vc113, [.tmp 4], (.nd .lf none (.nd (.nd .lf (some [.rd 0, .rd 1, .rd 2, .rd 3, .ld 4, .rd 5, .rd 6, .rd 7, .ld 8, .rd 9, .eff 10, .fg 4 [10, 9], .fg 8 [10, 9], .rd 11, .rd 12, .rd 13, .rd 14, .rd 15, .rd 16, .rd 17]) .lf) none .lf))⟩
theorem Vbd113 : BdOK Tryz.prog 113 Vb113 := ⟨⟨_, Tryz.func113, by kernel_rfl, by exact Tryz.ntmps113, by kernel_rfl⟩, by kernel_rfl, Tryz.call113⟩
noncomputable def Vc114 : Code := match Tryz.f114.body with | some c => c | none => .skip
noncomputable def Vb114 : FB := ⟨30, Vc114, [.tmp 2, .tmp 3, .tmp 4], .lf⟩
theorem Vbd114 : BdOK Tryz.prog 114 Vb114 := ⟨⟨_, Tryz.func114, by kernel_rfl, by exact Tryz.ntmps114, by kernel_rfl⟩, by kernel_rfl, Tryz.call114⟩
noncomputable def Vc115 : Code := match Tryz.f115.body with | some c => c | none => .skip
noncomputable def Vb115 : FB := ⟨10, Vc115, [.tmp 2], .lf⟩
theorem Vbd115 : BdOK Tryz.prog 115 Vb115 := ⟨⟨_, Tryz.func115, by kernel_rfl, by exact Tryz.ntmps115, by kernel_rfl⟩, by kernel_rfl, Tryz.call115⟩
noncomputable def Vc116 : Code := match Tryz.f116.body with | some c => c | none => .skip
noncomputable def Vb116 : FB := ⟨6, Vc116, [.tmp 2], .lf⟩
theorem Vbd116 : BdOK Tryz.prog 116 Vb116 := ⟨⟨_, Tryz.func116, by kernel_rfl, by exact Tryz.ntmps116, by kernel_rfl⟩, by kernel_rfl, Tryz.call116⟩
noncomputable def Vc117 : Code := match Tryz.f117.body with | some c => c | none => .skip
noncomputable def Vb117 : FB := ⟨8, Vc117, [.tmp 4], .lf⟩
theorem Vbd117 : BdOK Tryz.prog 117 Vb117 := ⟨⟨_, Tryz.func117, by kernel_rfl, by exact Tryz.ntmps117, by kernel_rfl⟩, by kernel_rfl, Tryz.call117⟩
noncomputable def Vc118 : Code := match Tryz.f118.body with | some c => c | none => .skip
noncomputable def Vb118 : FB := ⟨14, Vc118, [], .lf⟩
theorem Vbd118 : BdOK Tryz.prog 118 Vb118 := ⟨⟨_, Tryz.func118, by kernel_rfl, by exact Tryz.ntmps118, by kernel_rfl⟩, by kernel_rfl, Tryz.call118⟩
noncomputable def Vc119 : Code := match Tryz.f119.body with | some c => c | none => .skip
noncomputable def Vb119 : FB := ⟨11, Vc119, [.tmp 2], .lf⟩
theorem Vbd119 : BdOK Tryz.prog 119 Vb119 := ⟨⟨_, Tryz.func119, by kernel_rfl, by exact Tryz.ntmps119, by kernel_rfl⟩, by kernel_rfl, Tryz.call119⟩
noncomputable def Vc120 : Code := match Tryz.f120.body with | some c => c | none => .skip
noncomputable def Vb120 : FB := ⟨4, Vc120, [.tmp 2], .lf⟩
theorem Vbd120 : BdOK Tryz.prog 120 Vb120 := ⟨⟨_, Tryz.func120, by kernel_rfl, by exact Tryz.ntmps120, by kernel_rfl⟩, by kernel_rfl, Tryz.call120⟩
noncomputable def Vc121 : Code := match Tryz.f121.body with | some c => c | none => .skip
noncomputable def Vb121 : FB := ⟨11, Vc121, [], .lf⟩
theorem Vbd121 : BdOK Tryz.prog 121 Vb121 := ⟨⟨_, Tryz.func121, by kernel_rfl, by exact Tryz.ntmps121, by kernel_rfl⟩, by kernel_rfl, Tryz.call121⟩
noncomputable def Vc122 : Code := match Tryz.f122.body with | some c => c | none => .skip
noncomputable def Vb122 : FB := ⟨19, Vc122, [.tmp 4], .lf⟩
theorem Vbd122 : BdOK Tryz.prog 122 Vb122 := ⟨⟨_, Tryz.func122, by kernel_rfl, by exact Tryz.ntmps122, by kernel_rfl⟩, by kernel_rfl, Tryz.call122⟩
noncomputable def Vc124 : Code := match Tryz.f124.body with | some c => c | none => .skip
noncomputable def Vb124 : FB := ⟨28, Vc124, [], (.nd (.nd (.nd .lf (some [.rd 0, .rd 1, .rd 2, .rd 3, .rd 4, .rd 5, .rd 6, .ld 7, .rd 8, .rd 9, .rd 10, .ld 11, .rd 12, .eff 13, .fg 7 [13], .fg 11 [13], .rd 14, .eff 15]) .lf) none .lf) none .lf)⟩
theorem Vbd124 : BdOK Tryz.prog 124 Vb124 := ⟨⟨_, Tryz.func124, by kernel_rfl, by exact Tryz.ntmps124, by kernel_rfl⟩, by kernel_rfl, Tryz.call124⟩
noncomputable def Vc125 : Code := match Tryz.f125.body with | some c => c | none => .skip
noncomputable def Vb125 : FB := ⟨14, Vc125, [], .lf⟩
theorem Vbd125 : BdOK Tryz.prog 125 Vb125 := ⟨⟨_, Tryz.func125, by kernel_rfl, by exact Tryz.ntmps125, by kernel_rfl⟩, by kernel_rfl, Tryz.call125⟩
noncomputable def Vc126 : Code := match Tryz.f126.body with | some c => c | none => .skip
noncomputable def Vb126 : FB := ⟨134, Vc126, [], (.nd (.nd .lf none (.nd (.nd (.nd .lf (some [.rd 0, .rd 1, .rd 2, .rd 3, .rd 4, .rd 5, .rd 6, .ld 7, .rd 8, .rd 9, .rd 10, .ld 11, .eff 12, .fg 7 [12], .fg 11 [12], .rd 13, .rd 14]) .lf) none .lf) none .lf)) none .lf)⟩
theorem Vbd126 : BdOK Tryz.prog 126 Vb126 := ⟨⟨_, Tryz.func126, by kernel_rfl, by exact Tryz.ntmps126, by kernel_rfl⟩, by kernel_rfl, Tryz.call126⟩
noncomputable def Vc127 : Code := match Tryz.f127.body with | some c => c | none => .skip
noncomputable def Vb127 : FB := ⟨8, Vc127, [.tmp 2], .lf⟩
theorem Vbd127 : BdOK Tryz.prog 127 Vb127 := ⟨⟨_, Tryz.func127, by kernel_rfl, by exact Tryz.ntmps127, by kernel_rfl⟩, by kernel_rfl, Tryz.call127⟩
noncomputable def Vc128 : Code := match Tryz.f128.body with | some c => c | none => .skip
noncomputable def Vb128 : FB := ⟨49, Vc128, [], (.nd .lf none (.nd (.nd .lf (some [.rd 0, .rd 1, .rd 2, .rd 3, .rd 4, .rd 5, .rd 6, .ld 7, .rd 8, .rd 9, .rd 10, .rd 11, .ld 12, .eff 13, .fg 7 [13], .fg 12 [13], .rd 14]) .lf) none (.nd .lf (some [.rd 0, .rd 1, .rd 2, .rd 3, .rd 4, .rd 5, .rd 6, .rd 7, .rd 8, .ld 9, .rd 10, .rd 11, .rd 12, .ld 13, .rd 14, .eff 15, .fg 9 [15], .fg 13 [15], .rd 16, .eff 17]) .lf)))⟩
theorem Vbd128 : BdOK Tryz.prog 128 Vb128 := ⟨⟨_, Tryz.func128, by kernel_rfl, by exact Tryz.ntmps128, by kernel_rfl⟩, by kernel_rfl, Tryz.call128⟩
noncomputable def Vc129 : Code := match Tryz.f129.body with | some c => c | none => .skip
noncomputable def Vb129 : FB := ⟨56, Vc129, [], (.nd .lf none (.nd .lf none (.nd (.nd .lf (some [.rd 0, .rd 1, .rd 2, .rd 3, .rd 4, .rd 5, .rd 6, .rd 7, .rd 8, .rd 9, .rd 10, .ld 11, .rd 12, .rd 13, .rd 14, .ld 15, .rd 16, .eff 17, .fg 11 [17], .fg 15 [17], .rd 18, .eff 19]) .lf) none .lf)))⟩
theorem Vbd129 : BdOK Tryz.prog 129 Vb129 := ⟨⟨_, Tryz.func129, by kernel_rfl, by exact Tryz.ntmps129, by kernel_rfl⟩, by kernel_rfl, Tryz.call129⟩
noncomputable def Vc130 : Code := match Tryz.f130.body with | some c => c | none => .skip
noncomputable def Vb130 : FB := ⟨65, Vc130, [], (.nd .lf none (.nd .lf none (.nd (.nd .lf (some [.rd 0, .rd 1, .rd 2, .rd 3, .rd 4, .rd 5, .rd 6, .rd 7, .rd 8, .rd 9, .rd 10, .ld 11, .rd 12, .rd 13, .rd 14, .ld 15, .rd 16, .eff 17, .fg 11 [17], .fg 15 [17], .rd 18, .eff 19]) .lf) none .lf)))⟩
theorem Vbd130 : BdOK Tryz.prog 130 Vb130 := ⟨⟨_, Tryz.func130, by kernel_rfl, by exact Tryz.ntmps130, by kernel_rfl⟩, by kernel_rfl, Tryz.call130⟩
noncomputable def Vc131 : Code := match Tryz.f131.body with | some c => c | none => .skip
noncomputable def Vb131 : FB := ⟨57, Vc131, [.tmp 6, .tmp 7], .lf⟩
theorem Vbd131 : BdOK Tryz.prog 131 Vb131 := ⟨⟨_, Tryz.func131, by kernel_rfl, by exact Tryz.ntmps131, by kernel_rfl⟩, by kernel_rfl, Tryz.call131⟩
noncomputable def Vc132 : Code := match Tryz.f132.body with | some c => c | none => .skip
noncomputable def Vb132 : FB := ⟨32, Vc132, [], (.nd (.nd (.nd .lf (some [.rd 0, .rd 1, .rd 2, .rd 3, .rd 4, .rd 5, .rd 6, .ld 7, .rd 8, .rd 9, .rd 10, .ld 11, .rd 12, .eff 13, .fg 7 [13], .fg 11 [13], .rd 14, .eff 15]) .lf) none .lf) none .lf)⟩
theorem Vbd132 : BdOK Tryz.prog 132 Vb132 := ⟨⟨_, Tryz.func132, by kernel_rfl, by exact Tryz.ntmps132, by kernel_rfl⟩, by kernel_rfl, Tryz.call132⟩
noncomputable def Vc133 : Code := match Tryz.f133.body with | some c => c | none => .skip
noncomputable def Vb133 : FB := ⟨133, Vc133, [.tmp 6], (.nd (.nd (.nd (.nd .lf none (.nd .lf (some [.rd 0, .rd 1, .rd 2, .rd 3, .rd 4, .rd 5, .rd 6, .rd 7, .rd 8, .ld 9, .rd 10, .rd 11, .rd 12, .ld 13, .rd 14, .eff 15, .fg 9 [15], .fg 13 [15], .rd 16, .eff 17]) .lf)) none (.nd .lf (some [.rd 0, .rd 1, .rd 2, .rd 3, .rd 4, .rd 5, .rd 6, .rd 7, .rd 8, .ld 9, .rd 10, .rd 11, .rd 12, .ld 13, .rd 14, .eff 15, .fg 9 [15], .fg 13 [15], .rd 16, .eff 17]) .lf)) none (.nd (.nd (.nd .lf (some [.rd 0, .rd 1, .rd 2, .rd 3, .rd 4, .rd 5, .rd 6, .rd 7, .rd 8, .ld 9, .rd 10, .rd 11, .rd 12, .ld 13, .rd 14, .eff 15, .fg 9 [15], .fg 13 [15], .rd 16, .eff 17]) .lf) none .lf) (some [.rd 0, .rd 1, .rd 2, .rd 3, .rd 4, .rd 5, .rd 6, .ld 7, .rd 8, .rd 9, .rd 10, .rd 11, .ld 12, .eff 13, .fg 7 [13], .fg 12 [13], .rd 14, .rd 15]) .lf)) none (.nd (.nd (.nd (.nd .lf (some [.rd 0, .rd 1, .rd 2, .ld 3, .rd 4, .rd 5, .rd 6, .rd 7, .ld 8, .eff 9, .fg 3 [9], .fg 8 [9], .rd 10]) .lf) none .lf) none .lf) none (.nd .lf none (.nd (.nd .lf (some [.rd 0, .rd 1, .rd 2, .ld 3, .rd 4, .rd 5, .rd 6, .rd 7, .ld 8, .eff 9, .fg 3 [9], .fg 8 [9], .rd 10]) .lf) none .lf))))⟩
theorem Vbd133 : BdOK Tryz.prog 133 Vb133 := ⟨⟨_, Tryz.func133, by kernel_rfl, by exact Tryz.ntmps133, by kernel_rfl⟩, by kernel_rfl, Tryz.call133⟩
noncomputable def Vc134 : Code := match Tryz.f134.body with | some c => c | none => .skip
noncomputable def Vb134 : FB := ⟨17, Vc134, [.tmp 4], .lf⟩
theorem Vbd134 : BdOK Tryz.prog 134 Vb134 := ⟨⟨_, Tryz.func134, by kernel_rfl, by exact Tryz.ntmps134, by kernel_rfl⟩, by kernel_rfl, Tryz.call134⟩
noncomputable def Vc135 : Code := match Tryz.f135.body with | some c => c | none => .skip
noncomputable def Vb135 : FB := ⟨84, Vc135, [.tmp 8], (.nd (.nd (.nd .lf (some [.rd 0, .rd 1, .rd 2, .rd 3, .rd 4, .rd 5, .rd 6, .ld 7, .rd 8, .rd 9, .rd 10, .ld 11, .eff 12, .fg 7 [12], .fg 11 [12], .rd 13, .rd 14]) .lf) (some [.rd 0, .rd 1, .rd 2, .rd 3, .rd 4, .rd 5, .rd 6, .ld 7, .rd 8, .rd 9, .rd 10, .ld 11, .rd 12, .eff 13, .fg 7 [13], .fg 11 [13], .rd 14, .eff 15]) (.nd .lf (some [.rd 0, .rd 1, .rd 2, .rd 3, .rd 4, .rd 5, .rd 6, .ld 7, .rd 8, .rd 9, .rd 10, .ld 11, .eff 12, .fg 7 [12], .fg 11 [12], .rd 13]) .lf)) none (.nd (.nd (.nd .lf (some [.rd 0, .rd 1, .rd 2, .rd 3, .rd 4, .rd 5, .rd 6, .ld 7, .rd 8, .rd 9, .rd 10, .ld 11, .rd 12, .eff 13, .fg 7 [13], .fg 11 [13], .rd 14, .eff 15]) .lf) none .lf) none .lf))⟩
theorem Vbd135 : BdOK Tryz.prog 135 Vb135 := ⟨⟨_, Tryz.func135, by kernel_rfl, by exact Tryz.ntmps135, by kernel_rfl⟩, by kernel_rfl, Tryz.call135⟩
noncomputable def Vc136 : Code := match Tryz.f136.body with | some c => c | none => .skip
noncomputable def Vb136 : FB := ⟨168, Vc136, [.tmp 8, .tmp 9], (.nd (.nd (.nd (.nd (.nd .lf (some [.rd 0, .rd 1, .rd 2, .rd 3, .rd 4, .rd 5, .rd 6, .ld 7, .rd 8, .rd 9, .rd 10, .ld 11, .eff 12, .fg 7 [12], .fg 11 [12], .rd 13, .rd 14]) .lf) none .lf) (some [.rd 0, .rd 1, .rd 2, .rd 3, .rd 4, .rd 5, .rd 6, .ld 7, .rd 8, .rd 9, .rd 10, .ld 11, .eff 12, .fg 7 [12], .fg 11 [12], .rd 13]) .lf) (some [.rd 0, .rd 1, .rd 2, .rd 3, .rd 4, .rd 5, .rd 6, .ld 7, .rd 8, .rd 9, .rd 10, .ld 11, .rd 12, .eff 13, .fg 7 [13], .fg 11 [13], .rd 14, .eff 15]) (.nd .lf (some [.rd 0, .rd 1, .rd 2, .rd 3, .rd 4, .rd 5, .rd 6, .ld 7, .rd 8, .rd 9, .rd 10, .ld 11, .eff 12, .fg 7 [12], .fg 11 [12], .rd 13, .rd 14]) (.nd (.nd .lf (some [.rd 0, .rd 1, .rd 2, .rd 3, .rd 4, .rd 5, .rd 6, .ld 7, .rd 8, .rd 9, .rd 10, .ld 11, .rd 12, .eff 13, .fg 7 [13], .fg 11 [13], .rd 14, .eff 15]) .lf) (some [.rd 0, .rd 1, .rd 2, .rd 3, .rd 4, .rd 5, .rd 6, .ld 7, .rd 8, .rd 9, .rd 10, .ld 11, .eff 12, .fg 7 [12], .fg 11 [12], .rd 13]) .lf))) none (.nd (.nd (.nd .lf (some [.rd 0, .rd 1, .rd 2, .rd 3, .rd 4, .rd 5, .rd 6, .ld 7, .rd 8, .rd 9, .rd 10, .ld 11, .rd 12, .eff 13, .fg 7 [13], .fg 11 [13], .rd 14, .eff 15]) .lf) none .lf) none (.nd (.nd (.nd .lf (some [.rd 0, .rd 1, .rd 2, .rd 3, .rd 4, .rd 5, .rd 6, .ld 7, .rd 8, .rd 9, .rd 10, .ld 11, .rd 12, .eff 13, .fg 7 [13], .fg 11 [13], .rd 14, .eff 15]) .lf) (some [.rd 0, .rd 1, .rd 2, .rd 3, .rd 4, .rd 5, .rd 6, .ld 7, .rd 8, .rd 9, .rd 10, .ld 11, .rd 12, .eff 13, .fg 7 [13], .fg 11 [13], .rd 14, .eff 15]) .lf) none .lf)))⟩
theorem Vbd136 : BdOK Tryz.prog 136 Vb136 := ⟨⟨_, Tryz.func136, by kernel_rfl, by exact Tryz.ntmps136, by kernel_rfl⟩, by kernel_rfl, Tryz.call136⟩
noncomputable def Vc137 : Code := match Tryz.f137.body with | some c => c | none => .skip
noncomputable def Vb137 : FB := ⟨19, Vc137, [.tmp 2], .lf⟩
theorem Vbd137 : BdOK Tryz.prog 137 Vb137 := ⟨⟨_, Tryz.func137, by kernel_rfl, by exact Tryz.ntmps137, by kernel_rfl⟩, by kernel_rfl, Tryz.call137⟩
noncomputable def Vc138 : Code := match Tryz.f138.body with | some c => c | none => .skip
noncomputable def Vb138 : FB := ⟨25, Vc138, [.tmp 2], .lf⟩
theorem Vbd138 : BdOK Tryz.prog 138 Vb138 := ⟨⟨_, Tryz.func138, by kernel_rfl, by exact Tryz.ntmps138, by kernel_rfl⟩, by kernel_rfl, Tryz.call138⟩
noncomputable def Vc139 : Code := match Tryz.f139.body with | some c => c | none => .skip
noncomputable def Vb139 : FB := ⟨76, Vc139, [], (.nd (.nd (.nd .lf (some [.rd 0, .rd 1, .rd 2, .rd 3, .rd 4, .rd 5, .rd 6, .rd 7, .rd 8, .rd 9, .ld 10, .rd 11, .rd 12, .rd 13, .rd 14, .rd 15, .rd 16, .ld 17, .eff 18, .fg 10 [18], .fg 17 [18], .rd 19]) .lf) none (.nd .lf (some [.rd 0, .rd 1, .rd 2, .rd 3, .rd 4, .ld 5, .rd 6, .rd 7, .rd 8, .rd 9, .rd 10, .ld 11, .eff 12, .fg 5 [12], .fg 11 [12], .rd 13]) .lf)) none (.nd .lf none (.nd .lf (some [.rd 0, .rd 1, .rd 2, .rd 3, .rd 4, .rd 5, .rd 6, .rd 7, .rd 8, .rd 9, .rd 10, .rd 11, .rd 12, .ld 13, .rd 14, .rd 15, .rd 16, .rd 17, .rd 18, .ld 19, .rd 20, .eff 21, .fg 13 [21], .fg 19 [21], .rd 22, .eff 23]) .lf)))⟩
theorem Vbd139 : BdOK Tryz.prog 139 Vb139 := ⟨⟨_, Tryz.func139, by kernel_rfl, by exact Tryz.ntmps139, by kernel_rfl⟩, by kernel_rfl, Tryz.call139⟩
noncomputable def Vc140 : Code := match Tryz.f140.body with | some c => c | none => .skip
noncomputable def Vb140 : FB := ⟨7, Vc140, [.tmp 2], .lf⟩
theorem Vbd140 : BdOK Tryz.prog 140 Vb140 := ⟨⟨_, Tryz.func140, by kernel_rfl, by exact Tryz.ntmps140, by kernel_rfl⟩, by kernel_rfl, Tryz.call140⟩
noncomputable def Vc141 : Code := match Tryz.f141.body with | some c => c | none => .skip
noncomputable def Vb141 : FB := ⟨33, Vc141, [.tmp 2], (.nd (.nd (.nd .lf (some [.rd 0, .rd 1, .ld 2, .rd 3, .rd 4, .ld 5, .rd 6, .rd 7, .rd 8, .eff 9, .fg 2 [9], .fg 5 [9]]) .lf) (some [.rd 0, .rd 1, .ld 2, .rd 3, .rd 4, .ld 5, .rd 6, .rd 7, .rd 8, .eff 9, .fg 2 [9], .fg 5 [9]]) .lf) none (.nd .lf (some [.rd 0, .rd 1, .ld 2, .rd 3, .rd 4, .ld 5, .rd 6, .rd 7, .rd 8, .eff 9, .fg 2 [9], .fg 5 [9]]) .lf))⟩
theorem Vbd141 : BdOK Tryz.prog 141 Vb141 := ⟨⟨_, Tryz.func141, by kernel_rfl, by exact Tryz.ntmps141, by kernel_rfl⟩, by kernel_rfl, Tryz.call141⟩
noncomputable def Vc142 : Code := match Tryz.f142.body with | some c => c | none => .skip
noncomputable def Vb142 : FB := ⟨15, Vc142, [.tmp 6], .lf⟩
theorem Vbd142 : BdOK Tryz.prog 142 Vb142 := ⟨⟨_, Tryz.func142, by kernel_rfl, by exact Tryz.ntmps142, by kernel_rfl⟩, by kernel_rfl, Tryz.call142⟩
noncomputable def Vc143 : Code := match Tryz.f143.body with | some c => c | none => .skip
noncomputable def Vb143 : FB := ⟨36, Vc143, [.tmp 10], .lf⟩
theorem Vbd143 : BdOK Tryz.prog 143 Vb143 := ⟨⟨_, Tryz.func143, by kernel_rfl, by exact Tryz.ntmps143, by kernel_rfl⟩, by kernel_rfl, Tryz.call143⟩
noncomputable def Vc144 : Code := match Tryz.f144.body with | some c => c | none => .skip
noncomputable def Vb144 : FB := ⟨6, Vc144, [.tmp 2], .lf⟩
theorem Vbd144 : BdOK Tryz.prog 144 Vb144 := ⟨⟨_, Tryz.func144, by kernel_rfl, by exact Tryz.ntmps144, by kernel_rfl⟩, by kernel_rfl, Tryz.call144⟩
noncomputable def Vc145 : Code := match Tryz.f145.body with | some c => c | none => .skip
noncomputable def Vb145 : FB := ⟨28, Vc145, [.tmp 8, .tmp 9], (.nd (.nd .lf (some [.rd 0, .rd 1, .rd 2, .ld 3, .rd 4, .rd 5, .rd 6, .ld 7, .eff 8, .fg 3 [8], .fg 7 [8]]) .lf) none .lf)⟩
theorem Vbd145 : BdOK Tryz.prog 145 Vb145 := ⟨⟨_, Tryz.func145, by kernel_rfl, by exact Tryz.ntmps145, by kernel_rfl⟩, by kernel_rfl, Tryz.call145⟩
noncomputable def Vc164 : Code := match Tryz.f164.body with | some c => c | none => .skip
noncomputable def Vb164 : FB := ⟨6, Vc164, [.tmp 2], .lf⟩
theorem Vbd164 : BdOK Tryz.prog 164 Vb164 := ⟨⟨_, Tryz.func164, by kernel_rfl, by exact Tryz.ntmps164, by kernel_rfl⟩, by kernel_rfl, Tryz.call164⟩
noncomputable def Vc165 : Code := match Tryz.f165.body with | some c => c | none => .skip
noncomputable def Vb165 : FB := ⟨31, Vc165, [.tmp 4], (.nd (.nd .lf (some [.rd 0, .rd 1, .rd 2, .ld 3, .rd 5, .rd 6, .ld 7, .rd 8, .eff 4, .fg 3 [4], .eff 9, .fg 7 [9, 8], .rd 10]) .lf) none .lf)⟩
theorem Vbd165 : BdOK Tryz.prog 165 Vb165 := ⟨⟨_, Tryz.func165, by kernel_rfl, by exact Tryz.ntmps165, by kernel_rfl⟩, by kernel_rfl, Tryz.call165⟩
noncomputable def Vc166 : Code := match Tryz.f166.body with | some c => c | none => .skip
noncomputable def Vb166 : FB := ⟨18, Vc166, [.tmp 4], (.nd (.nd .lf (some [.rd 0, .rd 1, .rd 2, .ld 3, .rd 5, .rd 6, .ld 7, .rd 9, .rd 10, .ld 11, .eff 4, .fg 3 [4], .eff 8, .fg 7 [8], .eff 12, .fg 11 [12], .rd 13]) .lf) none .lf)⟩
theorem Vbd166 : BdOK Tryz.prog 166 Vb166 := ⟨⟨_, Tryz.func166, by kernel_rfl, by exact Tryz.ntmps166, by kernel_rfl⟩, by kernel_rfl, Tryz.call166⟩
noncomputable def Vc167 : Code := match Tryz.f167.body with | some c => c | none => .skip
noncomputable def Vb167 : FB := ⟨11, Vc167, [.tmp 4], .lf⟩
theorem Vbd167 : BdOK Tryz.prog 167 Vb167 := ⟨⟨_, Tryz.func167, by kernel_rfl, by exact Tryz.ntmps167, by kernel_rfl⟩, by kernel_rfl, Tryz.call167⟩
noncomputable def Vc168 : Code := match Tryz.f168.body with | some c => c | none => .skip
noncomputable def Vb168 : FB := ⟨10, Vc168, [.tmp 4], .lf⟩
theorem Vbd168 : BdOK Tryz.prog 168 Vb168 := ⟨⟨_, Tryz.func168, by kernel_rfl, by exact Tryz.ntmps168, by kernel_rfl⟩, by kernel_rfl, Tryz.call168⟩
noncomputable def Vc169 : Code := match Tryz.f169.body with | some c => c | none => .skip
noncomputable def Vb169 : FB := ⟨6, Vc169, [.tmp 2], .lf⟩
theorem Vbd169 : BdOK Tryz.prog 169 Vb169 := ⟨⟨_, Tryz.func169, by kernel_rfl, by exact Tryz.ntmps169, by kernel_rfl⟩, by kernel_rfl, Tryz.call169⟩
noncomputable def Vc170 : Code := match Tryz.f170.body with | some c => c | none => .skip
noncomputable def Vb170 : FB := ⟨41, Vc170, [.tmp 4], (.nd (.nd .lf (some [.rd 0, .rd 1, .rd 2, .ld 3, .rd 5, .rd 6, .ld 7, .rd 9, .rd 10, .ld 11, .rd 12, .eff 4, .fg 3 [4], .eff 8, .fg 7 [8], .eff 13, .fg 11 [13, 12], .rd 14]) (.nd .lf (some [.rd 0, .rd 1, .ld 2, .rd 4, .ld 5, .rd 7, .ld 8, .eff 3, .fg 2 [3], .eff 6, .fg 5 [6], .eff 9, .fg 8 [9], .rd 10]) .lf)) none .lf)⟩
theorem Vbd170 : BdOK Tryz.prog 170 Vb170 := ⟨⟨_, Tryz.func170, by kernel_rfl, by exact Tryz.ntmps170, by kernel_rfl⟩, by kernel_rfl, Tryz.call170⟩
noncomputable def Vc171 : Code := match Tryz.f171.body with | some c => c | none => .skip
noncomputable def Vb171 : FB := ⟨60, Vc171, [.tmp 2], (.nd .lf none (.nd .lf none (.nd .lf (some [.rd 0, .ld 1, .rd 3, .ld 4, .rd 6, .ld 7, .eff 2, .fg 1 [2], .eff 5, .fg 4 [5], .eff 8, .fg 7 [8], .rd 9, .rd 10, .rd 11, .rd 12, .rd 13, .ld 14, .rd 15, .ld 16, .rd 17, .rd 18, .rd 19, .rd 20, .ld 21, .rd 22, .rd 23, .rd 24, .eff 25, .fg 14 [25, 24, 23, 22], .fg 16 [25, 24, 23, 22, 21, 20, 19], .fg 21 [25, 24, 23, 22], .eff 26, .eff 27, .rd 28]) .lf)))⟩
theorem Vbd171 : BdOK Tryz.prog 171 Vb171 := ⟨⟨_, Tryz.func171, by kernel_rfl, by exact Tryz.ntmps171, by kernel_rfl⟩, by kernel_rfl, Tryz.call171⟩
noncomputable def Vc172 : Code := match Tryz.f172.body with | some c => c | none => .skip
noncomputable def Vb172 : FB := ⟨6, Vc172, [.tmp 2], .lf⟩
theorem Vbd172 : BdOK Tryz.prog 172 Vb172 := ⟨⟨_, Tryz.func172, by kernel_rfl, by exact Tryz.ntmps172, by kernel_rfl⟩, by kernel_rfl, Tryz.call172⟩
noncomputable def Vc173 : Code := match Tryz.f173.body with | some c => c | none => .skip
noncomputable def Vb173 : FB := ⟨44, Vc173, [.tmp 4], .lf⟩
theorem Vbd173 : BdOK Tryz.prog 173 Vb173 := ⟨⟨_, Tryz.func173, by kernel_rfl, by exact Tryz.ntmps173, by kernel_rfl⟩, by kernel_rfl, Tryz.call173⟩
noncomputable def Vc174 : Code := match Tryz.f174.body with | some c => c | none => .skip
noncomputable def Vb174 : FB := ⟨60, Vc174, [.tmp 2], .lf⟩
theorem Vbd174 : BdOK Tryz.prog 174 Vb174 := ⟨⟨_, Tryz.func174, by kernel_rfl, by exact Tryz.ntmps174, by kernel_rfl⟩, by kernel_rfl, Tryz.call174⟩
noncomputable def Vc176 : Code := match Tryz.f176.body with | some c => c | none => .skip
noncomputable def Vb176 : FB := ⟨6, Vc176, [.tmp 2], .lf⟩
theorem Vbd176 : BdOK Tryz.prog 176 Vb176 := ⟨⟨_, Tryz.func176, by kernel_rfl, by exact Tryz.ntmps176, by kernel_rfl⟩, by kernel_rfl, Tryz.call176⟩
noncomputable def VFT : T FK := (.nd (.nd (.nd (.nd (.nd (.nd (.nd (.nd .lf (some (.body Vb127)) .lf) (some (.body Vb63)) .lf) (some (.body Vb31)) (.nd .lf (some (.body Vb95)) .lf)) (some (.body Vb15)) (.nd (.nd (.nd .lf (some (.body Vb143)) .lf) (some (.body Vb79)) .lf) (some (.body Vb47)) (.nd .lf (some (.body Vb111)) .lf))) (some (.body Vb7)) (.nd (.nd (.nd (.nd .lf (some (.body Vb135)) .lf) (some (.body Vb71)) .lf) (some (.body Vb39)) (.nd (.nd .lf (some (.body Vb167)) .lf) (some (.body Vb103)) .lf)) (some (.body Vb23)) (.nd (.nd .lf (some (.body Vb87)) .lf) (some (.body Vb55)) (.nd .lf (some (.body Vb119)) .lf)))) none (.nd (.nd (.nd (.nd (.nd .lf (some (.body Vb131)) .lf) (some (.body Vb67)) .lf) (some (.body Vb35)) .lf) (some (.body Vb19)) (.nd (.nd .lf (some (.body Vb83)) .lf) (some (.body Vb51)) (.nd .lf (some (.body Vb115)) .lf))) (some (.body Vb11)) (.nd (.nd (.nd (.nd .lf (some (.body Vb139)) .lf) (some (.body Vb75)) .lf) (some (.body Vb43)) (.nd (.nd .lf (some (.body Vb171)) .lf) (some (.body Vb107)) .lf)) (some (.body Vb27)) (.nd (.nd .lf (some (.body Vb91)) .lf) (some (.body Vb59)) .lf)))) none (.nd (.nd (.nd (.nd (.nd (.nd .lf (some (.body Vb129)) .lf) (some (.body Vb65)) .lf) (some (.body Vb33)) (.nd .lf (some (.body Vb97)) .lf)) (some (.body Vb17)) (.nd (.nd (.nd .lf (some (.body Vb145)) .lf) (some (.body Vb81)) .lf) (some (.body Vb49)) (.nd .lf (some (.body Vb113)) .lf))) none (.nd (.nd (.nd (.nd .lf (some (.body Vb137)) .lf) (some (.body Vb73)) .lf) (some (.body Vb41)) (.nd (.nd .lf (some (.body Vb169)) .lf) (some (.body Vb105)) .lf)) (some (.body Vb25)) (.nd (.nd .lf (some (.body Vb89)) .lf) (some (.body Vb57)) (.nd .lf (some (.body Vb121)) .lf)))) none (.nd (.nd (.nd (.nd (.nd .lf (some (.body Vb133)) .lf) (some (.body Vb69)) .lf) (some (.body Vb37)) (.nd (.nd .lf (some (.body Vb165)) .lf) (some (.body Vb101)) .lf)) (some (.body Vb21)) (.nd (.nd .lf (some (.body Vb85)) .lf) (some (.body Vb53)) (.nd .lf (some (.body Vb117)) .lf))) (some (.body Vb13)) (.nd (.nd (.nd (.nd .lf (some (.body Vb141)) .lf) (some (.body Vb77)) .lf) (some (.body Vb45)) (.nd (.nd .lf (some (.body Vb173)) .lf) (some (.body Vb109)) .lf)) (some (.body Vb29)) (.nd (.nd .lf (some (.body Vb93)) .lf) (some (.body Vb61)) (.nd .lf (some (.body Vb125)) .lf)))))) none (.nd (.nd (.nd (.nd (.nd (.nd (.nd .lf (some (.body Vb128)) .lf) (some (.body Vb64)) .lf) (some (.body Vb32)) (.nd .lf (some (.body Vb96)) .lf)) (some (.body Vb16)) (.nd (.nd (.nd .lf (some (.body Vb144)) .lf) (some (.body Vb80)) .lf) (some (.body Vb48)) (.nd (.nd .lf (some (.body Vb176)) .lf) (some (.body Vb112)) .lf))) (some (.body Vb8)) (.nd (.nd (.nd (.nd .lf (some (.body Vb136)) .lf) (some (.body Vb72)) .lf) (some (.body Vb40)) (.nd (.nd .lf (some (.body Vb168)) .lf) (some (.body Vb104)) .lf)) (some (.body Vb24)) (.nd (.nd .lf (some (.body Vb88)) .lf) (some (.body Vb56)) (.nd .lf (some (.body Vb120)) .lf)))) (some (.body Vb4)) (.nd (.nd (.nd (.nd (.nd .lf (some (.body Vb132)) .lf) (some (.body Vb68)) .lf) (some (.body Vb36)) (.nd (.nd .lf (some (.body Vb164)) .lf) (some (.body Vb100)) .lf)) none (.nd (.nd .lf (some (.body Vb84)) .lf) (some (.body Vb52)) (.nd .lf (some (.body Vb116)) .lf))) (some (.body Vb12)) (.nd (.nd (.nd (.nd .lf (some (.body Vb140)) .lf) (some (.body Vb76)) .lf) (some (.body Vb44)) (.nd (.nd .lf (some (.body Vb172)) .lf) (some (.body Vb108)) .lf)) (some (.body Vb28)) (.nd (.nd .lf (some (.body Vb92)) .lf) (some (.body Vb60)) (.nd .lf (some (.body Vb124)) .lf))))) none (.nd (.nd (.nd (.nd (.nd (.nd .lf (some (.body Vb130)) .lf) (some (.body Vb66)) .lf) (some (.body Vb34)) (.nd .lf (some (.body Vb98)) .lf)) (some (.body Vb18)) (.nd (.nd .lf (some (.body Vb82)) .lf) (some (.body Vb50)) (.nd .lf (some (.body Vb114)) .lf))) (some (.body Vb10)) (.nd (.nd (.nd (.nd .lf (some (.body Vb138)) .lf) (some (.body Vb74)) .lf) (some (.body Vb42)) (.nd (.nd .lf (some (.body Vb170)) .lf) (some (.body Vb106)) .lf)) (some (.body Vb26)) (.nd (.nd .lf (some (.body Vb90)) .lf) (some (.body Vb58)) (.nd .lf (some (.body Vb122)) .lf)))) (some (.body Vb6)) (.nd (.nd (.nd (.nd (.nd .lf (some (.body Vb134)) .lf) (some (.body Vb70)) .lf) (some (.body Vb38)) (.nd (.nd .lf (some (.body Vb166)) .lf) (some (.body Vb102)) .lf)) (some (.body Vb22)) (.nd (.nd .lf (some (.body Vb86)) .lf) (some (.body Vb54)) (.nd .lf (some (.body Vb118)) .lf))) (some (.body Vb14)) (.nd (.nd (.nd (.nd .lf (some (.body Vb142)) .lf) (some (.body Vb78)) .lf) (some (.body Vb46)) (.nd (.nd .lf (some (.body Vb174)) .lf) (some (.body Vb110)) .lf)) (some (.body Vb30)) (.nd (.nd .lf (some (.body Vb94)) .lf) (some (.body Vb62)) (.nd .lf (some (.body Vb126)) .lf)))))))
theorem VFT_ok : ∀ g k, VFT.get g = some k → ∃ b, k = .body b ∧ BdOK Tryz.prog g b := fun g k hx => T.All.root (p := fun g k => ∃ b, k = FK.body b ∧ BdOK Tryz.prog g b) (t := VFT) (T.all_no (T.all_no (T.all_no (T.all_nd ⟨_, rfl, Vbd7⟩ (T.all_nd ⟨_, rfl, Vbd15⟩ (T.all_nd ⟨_, rfl, Vbd31⟩ (T.all_nd ⟨_, rfl, Vbd63⟩ (T.all_nd ⟨_, rfl, Vbd127⟩ T.all_lf T.all_lf) T.all_lf) (T.all_nd ⟨_, rfl, Vbd95⟩ T.all_lf T.all_lf)) (T.all_nd ⟨_, rfl, Vbd47⟩ (T.all_nd ⟨_, rfl, Vbd79⟩ (T.all_nd ⟨_, rfl, Vbd143⟩ T.all_lf T.all_lf) T.all_lf) (T.all_nd ⟨_, rfl, Vbd111⟩ T.all_lf T.all_lf))) (T.all_nd ⟨_, rfl, Vbd23⟩ (T.all_nd ⟨_, rfl, Vbd39⟩ (T.all_nd ⟨_, rfl, Vbd71⟩ (T.all_nd ⟨_, rfl, Vbd135⟩ T.all_lf T.all_lf) T.all_lf) (T.all_nd ⟨_, rfl, Vbd103⟩ (T.all_nd ⟨_, rfl, Vbd167⟩ T.all_lf T.all_lf) T.all_lf)) (T.all_nd ⟨_, rfl, Vbd55⟩ (T.all_nd ⟨_, rfl, Vbd87⟩ T.all_lf T.all_lf) (T.all_nd ⟨_, rfl, Vbd119⟩ T.all_lf T.all_lf)))) (T.all_nd ⟨_, rfl, Vbd11⟩ (T.all_nd ⟨_, rfl, Vbd19⟩ (T.all_nd ⟨_, rfl, Vbd35⟩ (T.all_nd ⟨_, rfl, Vbd67⟩ (T.all_nd ⟨_, rfl, Vbd131⟩ T.all_lf T.all_lf) T.all_lf) T.all_lf) (T.all_nd ⟨_, rfl, Vbd51⟩ (T.all_nd ⟨_, rfl, Vbd83⟩ T.all_lf T.all_lf) (T.all_nd ⟨_, rfl, Vbd115⟩ T.all_lf T.all_lf))) (T.all_nd ⟨_, rfl, Vbd27⟩ (T.all_nd ⟨_, rfl, Vbd43⟩ (T.all_nd ⟨_, rfl, Vbd75⟩ (T.all_nd ⟨_, rfl, Vbd139⟩ T.all_lf T.all_lf) T.all_lf) (T.all_nd ⟨_, rfl, Vbd107⟩ (T.all_nd ⟨_, rfl, Vbd171⟩ T.all_lf T.all_lf) T.all_lf)) (T.all_nd ⟨_, rfl, Vbd59⟩ (T.all_nd ⟨_, rfl, Vbd91⟩ T.all_lf T.all_lf) T.all_lf)))) (T.all_no (T.all_no (T.all_nd ⟨_, rfl, Vbd17⟩ (T.all_nd ⟨_, rfl, Vbd33⟩ (T.all_nd ⟨_, rfl, Vbd65⟩ (T.all_nd ⟨_, rfl, Vbd129⟩ T.all_lf T.all_lf) T.all_lf) (T.all_nd ⟨_, rfl, Vbd97⟩ T.all_lf T.all_lf)) (T.all_nd ⟨_, rfl, Vbd49⟩ (T.all_nd ⟨_, rfl, Vbd81⟩ (T.all_nd ⟨_, rfl, Vbd145⟩ T.all_lf T.all_lf) T.all_lf) (T.all_nd ⟨_, rfl, Vbd113⟩ T.all_lf T.all_lf))) (T.all_nd ⟨_, rfl, Vbd25⟩ (T.all_nd ⟨_, rfl, Vbd41⟩ (T.all_nd ⟨_, rfl, Vbd73⟩ (T.all_nd ⟨_, rfl, Vbd137⟩ T.all_lf T.all_lf) T.all_lf) (T.all_nd ⟨_, rfl, Vbd105⟩ (T.all_nd ⟨_, rfl, Vbd169⟩ T.all_lf T.all_lf) T.all_lf)) (T.all_nd ⟨_, rfl, Vbd57⟩ (T.all_nd ⟨_, rfl, Vbd89⟩ T.all_lf T.all_lf) (T.all_nd ⟨_, rfl, Vbd121⟩ T.all_lf T.all_lf)))) (T.all_nd ⟨_, rfl, Vbd13⟩ (T.all_nd ⟨_, rfl, Vbd21⟩ (T.all_nd ⟨_, rfl, Vbd37⟩ (T.all_nd ⟨_, rfl, Vbd69⟩ (T.all_nd ⟨_, rfl, Vbd133⟩ T.all_lf T.all_lf) T.all_lf) (T.all_nd ⟨_, rfl, Vbd101⟩ (T.all_nd ⟨_, rfl, Vbd165⟩ T.all_lf T.all_lf) T.all_lf)) (T.all_nd ⟨_, rfl, Vbd53⟩ (T.all_nd ⟨_, rfl, Vbd85⟩ T.all_lf T.all_lf) (T.all_nd ⟨_, rfl, Vbd117⟩ T.all_lf T.all_lf))) (T.all_nd ⟨_, rfl, Vbd29⟩ (T.all_nd ⟨_, rfl, Vbd45⟩ (T.all_nd ⟨_, rfl, Vbd77⟩ (T.all_nd ⟨_, rfl, Vbd141⟩ T.all_lf T.all_lf) T.all_lf) (T.all_nd ⟨_, rfl, Vbd109⟩ (T.all_nd ⟨_, rfl, Vbd173⟩ T.all_lf T.all_lf) T.all_lf)) (T.all_nd ⟨_, rfl, Vbd61⟩ (T.all_nd ⟨_, rfl, Vbd93⟩ T.all_lf T.all_lf) (T.all_nd ⟨_, rfl, Vbd125⟩ T.all_lf T.all_lf)))))) (T.all_no (T.all_nd ⟨_, rfl, Vbd4⟩ (T.all_nd ⟨_, rfl, Vbd8⟩ (T.all_nd ⟨_, rfl, Vbd16⟩ (T.all_nd ⟨_, rfl, Vbd32⟩ (T.all_nd ⟨_, rfl, Vbd64⟩ (T.all_nd ⟨_, rfl, Vbd128⟩ T.all_lf T.all_lf) T.all_lf) (T.all_nd ⟨_, rfl, Vbd96⟩ T.all_lf T.all_lf)) (T.all_nd ⟨_, rfl, Vbd48⟩ (T.all_nd ⟨_, rfl, Vbd80⟩ (T.all_nd ⟨_, rfl, Vbd144⟩ T.all_lf T.all_lf) T.all_lf) (T.all_nd ⟨_, rfl, Vbd112⟩ (T.all_nd ⟨_, rfl, Vbd176⟩ T.all_lf T.all_lf) T.all_lf))) (T.all_nd ⟨_, rfl, Vbd24⟩ (T.all_nd ⟨_, rfl, Vbd40⟩ (T.all_nd ⟨_, rfl, Vbd72⟩ (T.all_nd ⟨_, rfl, Vbd136⟩ T.all_lf T.all_lf) T.all_lf) (T.all_nd ⟨_, rfl, Vbd104⟩ (T.all_nd ⟨_, rfl, Vbd168⟩ T.all_lf T.all_lf) T.all_lf)) (T.all_nd ⟨_, rfl, Vbd56⟩ (T.all_nd ⟨_, rfl, Vbd88⟩ T.all_lf T.all_lf) (T.all_nd ⟨_, rfl, Vbd120⟩ T.all_lf T.all_lf)))) (T.all_nd ⟨_, rfl, Vbd12⟩ (T.all_no (T.all_nd ⟨_, rfl, Vbd36⟩ (T.all_nd ⟨_, rfl, Vbd68⟩ (T.all_nd ⟨_, rfl, Vbd132⟩ T.all_lf T.all_lf) T.all_lf) (T.all_nd ⟨_, rfl, Vbd100⟩ (T.all_nd ⟨_, rfl, Vbd164⟩ T.all_lf T.all_lf) T.all_lf)) (T.all_nd ⟨_, rfl, Vbd52⟩ (T.all_nd ⟨_, rfl, Vbd84⟩ T.all_lf T.all_lf) (T.all_nd ⟨_, rfl, Vbd116⟩ T.all_lf T.all_lf))) (T.all_nd ⟨_, rfl, Vbd28⟩ (T.all_nd ⟨_, rfl, Vbd44⟩ (T.all_nd ⟨_, rfl, Vbd76⟩ (T.all_nd ⟨_, rfl, Vbd140⟩ T.all_lf T.all_lf) T.all_lf) (T.all_nd ⟨_, rfl, Vbd108⟩ (T.all_nd ⟨_, rfl, Vbd172⟩ T.all_lf T.all_lf) T.all_lf)) (T.all_nd ⟨_, rfl, Vbd60⟩ (T.all_nd ⟨_, rfl, Vbd92⟩ T.all_lf T.all_lf) (T.all_nd ⟨_, rfl, Vbd124⟩ T.all_lf T.all_lf))))) (T.all_nd ⟨_, rfl, Vbd6⟩ (T.all_nd ⟨_, rfl, Vbd10⟩ (T.all_nd ⟨_, rfl, Vbd18⟩ (T.all_nd ⟨_, rfl, Vbd34⟩ (T.all_nd ⟨_, rfl, Vbd66⟩ (T.all_nd ⟨_, rfl, Vbd130⟩ T.all_lf T.all_lf) T.all_lf) (T.all_nd ⟨_, rfl, Vbd98⟩ T.all_lf T.all_lf)) (T.all_nd ⟨_, rfl, Vbd50⟩ (T.all_nd ⟨_, rfl, Vbd82⟩ T.all_lf T.all_lf) (T.all_nd ⟨_, rfl, Vbd114⟩ T.all_lf T.all_lf))) (T.all_nd ⟨_, rfl, Vbd26⟩ (T.all_nd ⟨_, rfl, Vbd42⟩ (T.all_nd ⟨_, rfl, Vbd74⟩ (T.all_nd ⟨_, rfl, Vbd138⟩ T.all_lf T.all_lf) T.all_lf) (T.all_nd ⟨_, rfl, Vbd106⟩ (T.all_nd ⟨_, rfl, Vbd170⟩ T.all_lf T.all_lf) T.all_lf)) (T.all_nd ⟨_, rfl, Vbd58⟩ (T.all_nd ⟨_, rfl, Vbd90⟩ T.all_lf T.all_lf) (T.all_nd ⟨_, rfl, Vbd122⟩ T.all_lf T.all_lf)))) (T.all_nd ⟨_, rfl, Vbd14⟩ (T.all_nd ⟨_, rfl, Vbd22⟩ (T.all_nd ⟨_, rfl, Vbd38⟩ (T.all_nd ⟨_, rfl, Vbd70⟩ (T.all_nd ⟨_, rfl, Vbd134⟩ T.all_lf T.all_lf) T.all_lf) (T.all_nd ⟨_, rfl, Vbd102⟩ (T.all_nd ⟨_, rfl, Vbd166⟩ T.all_lf T.all_lf) T.all_lf)) (T.all_nd ⟨_, rfl, Vbd54⟩ (T.all_nd ⟨_, rfl, Vbd86⟩ T.all_lf T.all_lf) (T.all_nd ⟨_, rfl, Vbd118⟩ T.all_lf T.all_lf))) (T.all_nd ⟨_, rfl, Vbd30⟩ (T.all_nd ⟨_, rfl, Vbd46⟩ (T.all_nd ⟨_, rfl, Vbd78⟩ (T.all_nd ⟨_, rfl, Vbd142⟩ T.all_lf T.all_lf) T.all_lf) (T.all_nd ⟨_, rfl, Vbd110⟩ (T.all_nd ⟨_, rfl, Vbd174⟩ T.all_lf T.all_lf) T.all_lf)) (T.all_nd ⟨_, rfl, Vbd62⟩ (T.all_nd ⟨_, rfl, Vbd94⟩ T.all_lf T.all_lf) (T.all_nd ⟨_, rfl, Vbd126⟩ T.all_lf T.all_lf))))))) hx
noncomputable def Vmeth (t : TypeId) (s : String) : Option FuncId := if t = 105 ∧ s = "cresset/record.check" then some 164 else if t = 105 ∧ s = "cresset/record.put" then some 165 else if t = 256 ∧ s = "cresset/record.put" then some 166 else if t = 199 ∧ s = "cresset/record.check" then some 169 else if t = 199 ∧ s = "cresset/record.put" then some 170 else if t = 210 ∧ s = "cresset/record.check" then some 172 else if t = 210 ∧ s = "cresset/record.put" then some 173 else if t = 256 ∧ s = "cresset/record.check" then some 176 else none
theorem Vmeth_ok : ∀ t s g, Vmeth t s = some g → ∀ v xs w, (callMethod (.iface t v) s xs).run Tryz.prog w = (callFunc g (#[v] ++ xs)).run Tryz.prog w := by
  intro t s g h v xs w
  unfold Vmeth at h
  split at h
  · rename_i hc
    obtain ⟨rfl, rfl⟩ := hc
    cases h
    exact (Meth.of Tryz.underlying105 (by kernel_rfl) : Meth Tryz.prog 105 "cresset/record.check" 164).out v xs w
  split at h
  · rename_i hc
    obtain ⟨rfl, rfl⟩ := hc
    cases h
    exact (Meth.of Tryz.underlying105 (by kernel_rfl) : Meth Tryz.prog 105 "cresset/record.put" 165).out v xs w
  split at h
  · rename_i hc
    obtain ⟨rfl, rfl⟩ := hc
    cases h
    exact (Meth.of Tryz.underlying256 (by kernel_rfl) : Meth Tryz.prog 256 "cresset/record.put" 166).out v xs w
  split at h
  · rename_i hc
    obtain ⟨rfl, rfl⟩ := hc
    cases h
    exact (Meth.of Tryz.underlying199 (by kernel_rfl) : Meth Tryz.prog 199 "cresset/record.check" 169).out v xs w
  split at h
  · rename_i hc
    obtain ⟨rfl, rfl⟩ := hc
    cases h
    exact (Meth.of Tryz.underlying199 (by kernel_rfl) : Meth Tryz.prog 199 "cresset/record.put" 170).out v xs w
  split at h
  · rename_i hc
    obtain ⟨rfl, rfl⟩ := hc
    cases h
    exact (Meth.of Tryz.underlying210 (by kernel_rfl) : Meth Tryz.prog 210 "cresset/record.check" 172).out v xs w
  split at h
  · rename_i hc
    obtain ⟨rfl, rfl⟩ := hc
    cases h
    exact (Meth.of Tryz.underlying210 (by kernel_rfl) : Meth Tryz.prog 210 "cresset/record.put" 173).out v xs w
  split at h
  · rename_i hc
    obtain ⟨rfl, rfl⟩ := hc
    cases h
    exact (Meth.of Tryz.underlying256 (by kernel_rfl) : Meth Tryz.prog 256 "cresset/record.check" 176).out v xs w
  cases h
noncomputable def Vdfn (f : FuncId) (n : Nat) : Bool := (Nat.beq f 21 && Nat.beq n 3) || (Nat.beq f 33 && Nat.beq n 2)
noncomputable def Vpg {ρ : Type} : Pg ρ := { cf := { X := VX, E := VE, meth := Vmeth }, FT := VFT, prim := fun _ _ _ _ _ => none, dfn := Vdfn }
theorem Vdfn21 : DfnOK Tryz.prog 21 3 := by
  refine dfn_rec Tryz.func21 Tryz.ntmps21 (by kernel_rfl) rfl Tryz.call21 rfl (by decide) fun w0 Rs vs hvs => ?_
  repeat' (first | with_reducible (first | refine go1 ?_ | refine sct ?_ | refine scf ?_ | refine sgr ?_) | fail)
  exact sq_postV (.inl rfl)
theorem Vdfn33 : DfnOK Tryz.prog 33 2 := by
  refine dfn_rec Tryz.func33 Tryz.ntmps33 (by kernel_rfl) rfl Tryz.call33 rfl (by decide) fun w0 Rs vs hvs => ?_
  repeat' (first | with_reducible (first | refine go1 ?_ | refine sct ?_ | refine scf ?_ | refine sgr ?_) | fail)
  exact sq_postV (.inl rfl)
theorem Vpg_ok {ρ : Type} : PgOK Tryz.prog (Vpg (ρ := ρ)) := by
  refine ⟨⟨VX_ok, VE_ok, Vmeth_ok⟩, fun g b h => ?_, fun g e h => ?_, fun g h => ?_, fun f n h => ?_, by kernel_rfl⟩
  · obtain ⟨b', h1, h2⟩ := VFT_ok g _ h
    cases h1; exact h2
  · obtain ⟨b', h1, h2⟩ := VFT_ok g _ h
    cases h1
  · obtain ⟨b', h1, h2⟩ := VFT_ok g _ h
    cases h1
  · have h : ((Nat.beq f 21 && Nat.beq n 3) || (Nat.beq f 33 && Nat.beq n 2)) = true := h
    simp only [Bool.or_eq_true, Bool.and_eq_true] at h
    rcases h with h | h
    · have h1 := Nat.eq_of_beq_eq_true h.1; have h2 := Nat.eq_of_beq_eq_true h.2; subst h1; subst h2; exact Vdfn21
    · have h1 := Nat.eq_of_beq_eq_true h.1; have h2 := Nat.eq_of_beq_eq_true h.2; subst h1; subst h2; exact Vdfn33
end Go.Gsl
