/- Part of a proof: rules that its law uses. -/
import Derived.Test.YtgonajfngmeanaaDoorProg
import Derived.Test.YtgonajfngmeanaaDoorFwB
set_option maxRecDepth 100000
namespace Go.Fw.Tryd
open Go Go.Proofs
def i2 : TI := { u := .int .i64, sz := 1, bytes := 8, z := Value.int .i64 0 }
theorem ok2 : TI.ok Tryd.prog 2 i2 := ⟨by kernel_rfl, Tryd.t2, by kernel_rfl, by kernel_rfl, by kernel_rfl, by kernel_rfl⟩
def i3 : TI := { u := .int .i64, sz := 1, bytes := 8, z := Value.int .i64 0 }
theorem ok3 : TI.ok Tryd.prog 3 i3 := ⟨by kernel_rfl, Tryd.t3, by kernel_rfl, by kernel_rfl, by kernel_rfl, by kernel_rfl⟩
def i4 : TI := { u := .bool, sz := 1, bytes := 1, z := Value.bool false }
theorem ok4 : TI.ok Tryd.prog 4 i4 := ⟨by kernel_rfl, Tryd.t4, by kernel_rfl, by kernel_rfl, by kernel_rfl, by kernel_rfl⟩
def i5 : TI := { u := .int .u8, sz := 1, bytes := 1, z := Value.int .u8 0 }
theorem ok5 : TI.ok Tryd.prog 5 i5 := ⟨by kernel_rfl, Tryd.t5, by kernel_rfl, by kernel_rfl, by kernel_rfl, by kernel_rfl⟩
def i6 : TI := { u := .int .u8, sz := 1, bytes := 1, z := Value.int .u8 0 }
theorem ok6 : TI.ok Tryd.prog 6 i6 := ⟨by kernel_rfl, Tryd.t6, by kernel_rfl, by kernel_rfl, by kernel_rfl, by kernel_rfl⟩
def i7 : TI := { u := .struct #[{ name := "x", type := 2, offset := 0, embedded := false, tag := "", pkgPath := "runtime", byteOffset := 0 }, { name := "y", type := 3, offset := 1, embedded := false, tag := "", pkgPath := "runtime", byteOffset := 8 }, { name := "signed", type := 4, offset := 2, embedded := false, tag := "", pkgPath := "runtime", byteOffset := 16 }, { name := "code", type := 6, offset := 3, embedded := false, tag := "", pkgPath := "runtime", byteOffset := 17 }], sz := 4, bytes := 24, z := Value.agg ([Value.int .i64 0, Value.int .i64 0, Value.bool false, Value.int .u8 0]).toArray }
theorem ok7 : TI.ok Tryd.prog 7 i7 := ⟨by kernel_rfl, Tryd.t7, by kernel_rfl, by kernel_rfl, by kernel_rfl, by kernel_rfl⟩
def i8 : TI := { u := .struct #[{ name := "x", type := 2, offset := 0, embedded := false, tag := "", pkgPath := "runtime", byteOffset := 0 }, { name := "y", type := 3, offset := 1, embedded := false, tag := "", pkgPath := "runtime", byteOffset := 8 }, { name := "signed", type := 4, offset := 2, embedded := false, tag := "", pkgPath := "runtime", byteOffset := 16 }, { name := "code", type := 6, offset := 3, embedded := false, tag := "", pkgPath := "runtime", byteOffset := 17 }], sz := 4, bytes := 24, z := Value.agg ([Value.int .i64 0, Value.int .i64 0, Value.bool false, Value.int .u8 0]).toArray }
theorem ok8 : TI.ok Tryd.prog 8 i8 := ⟨by kernel_rfl, Tryd.t8, by kernel_rfl, by kernel_rfl, by kernel_rfl, by kernel_rfl⟩
def i9 : TI := { u := .string, sz := 1, bytes := 16, z := Value.string ByteArray.empty }
theorem ok9 : TI.ok Tryd.prog 9 i9 := ⟨by kernel_rfl, Tryd.t9, by kernel_rfl, by kernel_rfl, by kernel_rfl, by kernel_rfl⟩
def i10 : TI := { u := .string, sz := 1, bytes := 16, z := Value.string ByteArray.empty }
theorem ok10 : TI.ok Tryd.prog 10 i10 := ⟨by kernel_rfl, Tryd.t10, by kernel_rfl, by kernel_rfl, by kernel_rfl, by kernel_rfl⟩
def i11 : TI := { u := .string, sz := 1, bytes := 16, z := Value.string ByteArray.empty }
theorem ok11 : TI.ok Tryd.prog 11 i11 := ⟨by kernel_rfl, Tryd.t11, by kernel_rfl, by kernel_rfl, by kernel_rfl, by kernel_rfl⟩
def i12 : TI := { u := .int .u64, sz := 1, bytes := 8, z := Value.int .u64 0 }
theorem ok12 : TI.ok Tryd.prog 12 i12 := ⟨by kernel_rfl, Tryd.t12, by kernel_rfl, by kernel_rfl, by kernel_rfl, by kernel_rfl⟩
def i13 : TI := { u := .struct #[{ name := "msg", type := 9, offset := 0, embedded := false, tag := "", pkgPath := "runtime", byteOffset := 0 }, { name := "addr", type := 12, offset := 1, embedded := false, tag := "", pkgPath := "runtime", byteOffset := 16 }], sz := 2, bytes := 24, z := Value.agg ([Value.string ByteArray.empty, Value.int .u64 0]).toArray }
theorem ok13 : TI.ok Tryd.prog 13 i13 := ⟨by kernel_rfl, Tryd.t13, by kernel_rfl, by kernel_rfl, by kernel_rfl, by kernel_rfl⟩
def i14 : TI := { u := .struct #[{ name := "msg", type := 9, offset := 0, embedded := false, tag := "", pkgPath := "runtime", byteOffset := 0 }, { name := "addr", type := 12, offset := 1, embedded := false, tag := "", pkgPath := "runtime", byteOffset := 16 }], sz := 2, bytes := 24, z := Value.agg ([Value.string ByteArray.empty, Value.int .u64 0]).toArray }
theorem ok14 : TI.ok Tryd.prog 14 i14 := ⟨by kernel_rfl, Tryd.t14, by kernel_rfl, by kernel_rfl, by kernel_rfl, by kernel_rfl⟩
def i15 : TI := { u := .pointer 97, sz := 1, bytes := 8, z := Value.pointer none }
theorem ok15 : TI.ok Tryd.prog 15 i15 := ⟨by kernel_rfl, Tryd.t15, by kernel_rfl, by kernel_rfl, by kernel_rfl, by kernel_rfl⟩
def i16 : TI := { u := .pointer 100, sz := 1, bytes := 8, z := Value.pointer none }
theorem ok16 : TI.ok Tryd.prog 16 i16 := ⟨by kernel_rfl, Tryd.t16, by kernel_rfl, by kernel_rfl, by kernel_rfl, by kernel_rfl⟩
def i17 : TI := { u := .pointer 108, sz := 1, bytes := 8, z := Value.pointer none }
theorem ok17 : TI.ok Tryd.prog 17 i17 := ⟨by kernel_rfl, Tryd.t17, by kernel_rfl, by kernel_rfl, by kernel_rfl, by kernel_rfl⟩
def i18 : TI := { u := .struct #[{ name := "typ", type := 17, offset := 0, embedded := false, tag := "", pkgPath := "internal/runtime/maps", byteOffset := 0 }], sz := 1, bytes := 8, z := Value.agg ([Value.pointer none]).toArray }
theorem ok18 : TI.ok Tryd.prog 18 i18 := ⟨by kernel_rfl, Tryd.t18, by kernel_rfl, by kernel_rfl, by kernel_rfl, by kernel_rfl⟩
def i19 : TI := { u := .struct #[{ name := "typ", type := 17, offset := 0, embedded := false, tag := "", pkgPath := "internal/runtime/maps", byteOffset := 0 }], sz := 1, bytes := 8, z := Value.agg ([Value.pointer none]).toArray }
theorem ok19 : TI.ok Tryd.prog 19 i19 := ⟨by kernel_rfl, Tryd.t19, by kernel_rfl, by kernel_rfl, by kernel_rfl, by kernel_rfl⟩
def i21 : TI := { u := .int .i32, sz := 1, bytes := 4, z := Value.int .i32 0 }
theorem ok21 : TI.ok Tryd.prog 21 i21 := ⟨by kernel_rfl, Tryd.t21, by kernel_rfl, by kernel_rfl, by kernel_rfl, by kernel_rfl⟩
def i22 : TI := { u := .int .u32, sz := 1, bytes := 4, z := Value.int .u32 0 }
theorem ok22 : TI.ok Tryd.prog 22 i22 := ⟨by kernel_rfl, Tryd.t22, by kernel_rfl, by kernel_rfl, by kernel_rfl, by kernel_rfl⟩
def i23 : TI := { u := .array 8 22, sz := 8, bytes := 32, z := Value.agg ([Value.int .u32 0, Value.int .u32 0, Value.int .u32 0, Value.int .u32 0, Value.int .u32 0, Value.int .u32 0, Value.int .u32 0, Value.int .u32 0]).toArray }
theorem ok23 : TI.ok Tryd.prog 23 i23 := ⟨by kernel_rfl, Tryd.t23, by kernel_rfl, by kernel_rfl, by kernel_rfl, by kernel_rfl⟩
def i24 : TI := { u := .slice 5, sz := 1, bytes := 24, z := Value.slice none 0 0 }
theorem ok24 : TI.ok Tryd.prog 24 i24 := ⟨by kernel_rfl, Tryd.t24, by kernel_rfl, by kernel_rfl, by kernel_rfl, by kernel_rfl⟩
def i26 : TI := { u := .int .i64, sz := 1, bytes := 8, z := Value.int .i64 0 }
theorem ok26 : TI.ok Tryd.prog 26 i26 := ⟨by kernel_rfl, Tryd.t26, by kernel_rfl, by kernel_rfl, by kernel_rfl, by kernel_rfl⟩
def i36 : TI := { u := .slice 24, sz := 1, bytes := 24, z := Value.slice none 0 0 }
theorem ok36 : TI.ok Tryd.prog 36 i36 := ⟨by kernel_rfl, Tryd.t36, by kernel_rfl, by kernel_rfl, by kernel_rfl, by kernel_rfl⟩
def i38 : TI := { u := .array 32 5, sz := 32, bytes := 32, z := Value.agg (List.replicate 32 (Value.int .u8 0)).toArray }
theorem ok38 : TI.ok Tryd.prog 38 i38 := ⟨by kernel_rfl, Tryd.t38, by kernel_rfl, by kernel_rfl, by kernel_rfl, by kernel_rfl⟩
def i39 : TI := { u := .array 32 5, sz := 32, bytes := 32, z := Value.agg (List.replicate 32 (Value.int .u8 0)).toArray }
theorem ok39 : TI.ok Tryd.prog 39 i39 := ⟨by kernel_rfl, Tryd.t39, by kernel_rfl, by kernel_rfl, by kernel_rfl, by kernel_rfl⟩
def i47 : TI := { u := .int .u64, sz := 1, bytes := 8, z := Value.int .u64 0 }
theorem ok47 : TI.ok Tryd.prog 47 i47 := ⟨by kernel_rfl, Tryd.t47, by kernel_rfl, by kernel_rfl, by kernel_rfl, by kernel_rfl⟩
def i49 : TI := { u := .pointer 56, sz := 1, bytes := 8, z := Value.pointer none }
theorem ok49 : TI.ok Tryd.prog 49 i49 := ⟨by kernel_rfl, Tryd.t49, by kernel_rfl, by kernel_rfl, by kernel_rfl, by kernel_rfl⟩
def i54 : TI := { u := .slice 62, sz := 1, bytes := 24, z := Value.slice none 0 0 }
theorem ok54 : TI.ok Tryd.prog 54 i54 := ⟨by kernel_rfl, Tryd.t54, by kernel_rfl, by kernel_rfl, by kernel_rfl, by kernel_rfl⟩
def i55 : TI := { u := .struct #[{ name := "state", type := 23, offset := 0, embedded := false, tag := "", pkgPath := "waybill/sha", byteOffset := 0 }, { name := "rest", type := 24, offset := 8, embedded := false, tag := "", pkgPath := "waybill/sha", byteOffset := 32 }, { name := "n", type := 3, offset := 9, embedded := false, tag := "", pkgPath := "waybill/sha", byteOffset := 56 }], sz := 10, bytes := 64, z := Value.agg ([Value.int .u32 0, Value.int .u32 0, Value.int .u32 0, Value.int .u32 0, Value.int .u32 0, Value.int .u32 0, Value.int .u32 0, Value.int .u32 0, Value.slice none 0 0, Value.int .i64 0]).toArray }
theorem ok55 : TI.ok Tryd.prog 55 i55 := ⟨by kernel_rfl, Tryd.t55, by kernel_rfl, by kernel_rfl, by kernel_rfl, by kernel_rfl⟩
def i56 : TI := { u := .struct #[{ name := "state", type := 23, offset := 0, embedded := false, tag := "", pkgPath := "waybill/sha", byteOffset := 0 }, { name := "rest", type := 24, offset := 8, embedded := false, tag := "", pkgPath := "waybill/sha", byteOffset := 32 }, { name := "n", type := 3, offset := 9, embedded := false, tag := "", pkgPath := "waybill/sha", byteOffset := 56 }], sz := 10, bytes := 64, z := Value.agg ([Value.int .u32 0, Value.int .u32 0, Value.int .u32 0, Value.int .u32 0, Value.int .u32 0, Value.int .u32 0, Value.int .u32 0, Value.int .u32 0, Value.slice none 0 0, Value.int .i64 0]).toArray }
theorem ok56 : TI.ok Tryd.prog 56 i56 := ⟨by kernel_rfl, Tryd.t56, by kernel_rfl, by kernel_rfl, by kernel_rfl, by kernel_rfl⟩
def i57 : TI := { u := .slice 49, sz := 1, bytes := 24, z := Value.slice none 0 0 }
theorem ok57 : TI.ok Tryd.prog 57 i57 := ⟨by kernel_rfl, Tryd.t57, by kernel_rfl, by kernel_rfl, by kernel_rfl, by kernel_rfl⟩
def i58 : TI := { u := .pointer 77, sz := 1, bytes := 8, z := Value.pointer none }
theorem ok58 : TI.ok Tryd.prog 58 i58 := ⟨by kernel_rfl, Tryd.t58, by kernel_rfl, by kernel_rfl, by kernel_rfl, by kernel_rfl⟩
def i60 : TI := { u := .slice 58, sz := 1, bytes := 24, z := Value.slice none 0 0 }
theorem ok60 : TI.ok Tryd.prog 60 i60 := ⟨by kernel_rfl, Tryd.t60, by kernel_rfl, by kernel_rfl, by kernel_rfl, by kernel_rfl⟩
def i61 : TI := { u := .struct #[{ name := "Kind", type := 3, offset := 0, embedded := false, tag := "", pkgPath := "", byteOffset := 0 }, { name := "At", type := 3, offset := 1, embedded := false, tag := "", pkgPath := "", byteOffset := 8 }, { name := "Data", type := 24, offset := 2, embedded := false, tag := "", pkgPath := "", byteOffset := 16 }], sz := 3, bytes := 40, z := Value.agg ([Value.int .i64 0, Value.int .i64 0, Value.slice none 0 0]).toArray }
theorem ok61 : TI.ok Tryd.prog 61 i61 := ⟨by kernel_rfl, Tryd.t61, by kernel_rfl, by kernel_rfl, by kernel_rfl, by kernel_rfl⟩
def i62 : TI := { u := .struct #[{ name := "Kind", type := 3, offset := 0, embedded := false, tag := "", pkgPath := "", byteOffset := 0 }, { name := "At", type := 3, offset := 1, embedded := false, tag := "", pkgPath := "", byteOffset := 8 }, { name := "Data", type := 24, offset := 2, embedded := false, tag := "", pkgPath := "", byteOffset := 16 }], sz := 3, bytes := 40, z := Value.agg ([Value.int .i64 0, Value.int .i64 0, Value.slice none 0 0]).toArray }
theorem ok62 : TI.ok Tryd.prog 62 i62 := ⟨by kernel_rfl, Tryd.t62, by kernel_rfl, by kernel_rfl, by kernel_rfl, by kernel_rfl⟩
def i70 : TI := { u := .slice 22, sz := 1, bytes := 24, z := Value.slice none 0 0 }
theorem ok70 : TI.ok Tryd.prog 70 i70 := ⟨by kernel_rfl, Tryd.t70, by kernel_rfl, by kernel_rfl, by kernel_rfl, by kernel_rfl⟩
def i76 : TI := { u := .struct #[{ name := "Text", type := 24, offset := 0, embedded := false, tag := "", pkgPath := "", byteOffset := 0 }], sz := 1, bytes := 24, z := Value.agg ([Value.slice none 0 0]).toArray }
theorem ok76 : TI.ok Tryd.prog 76 i76 := ⟨by kernel_rfl, Tryd.t76, by kernel_rfl, by kernel_rfl, by kernel_rfl, by kernel_rfl⟩
def i77 : TI := { u := .struct #[{ name := "Text", type := 24, offset := 0, embedded := false, tag := "", pkgPath := "", byteOffset := 0 }], sz := 1, bytes := 24, z := Value.agg ([Value.slice none 0 0]).toArray }
theorem ok77 : TI.ok Tryd.prog 77 i77 := ⟨by kernel_rfl, Tryd.t77, by kernel_rfl, by kernel_rfl, by kernel_rfl, by kernel_rfl⟩
def i78 : TI := { u := .array 64 5, sz := 64, bytes := 64, z := Value.agg (List.replicate 64 (Value.int .u8 0)).toArray }
theorem ok78 : TI.ok Tryd.prog 78 i78 := ⟨by kernel_rfl, Tryd.t78, by kernel_rfl, by kernel_rfl, by kernel_rfl, by kernel_rfl⟩
def i80 : TI := { u := .array 64 22, sz := 64, bytes := 256, z := Value.agg (List.replicate 64 (Value.int .u32 0)).toArray }
theorem ok80 : TI.ok Tryd.prog 80 i80 := ⟨by kernel_rfl, Tryd.t80, by kernel_rfl, by kernel_rfl, by kernel_rfl, by kernel_rfl⟩
def i89 : TI := { u := .int .u64, sz := 1, bytes := 8, z := Value.int .u64 0 }
theorem ok89 : TI.ok Tryd.prog 89 i89 := ⟨by kernel_rfl, Tryd.t89, by kernel_rfl, by kernel_rfl, by kernel_rfl, by kernel_rfl⟩
def i90 : TI := { u := .array 16 3, sz := 16, bytes := 128, z := Value.agg (List.replicate 16 (Value.int .i64 0)).toArray }
theorem ok90 : TI.ok Tryd.prog 90 i90 := ⟨by kernel_rfl, Tryd.t90, by kernel_rfl, by kernel_rfl, by kernel_rfl, by kernel_rfl⟩
def i96 : TI := { u := .struct #[{ name := "_interface", type := 17, offset := 0, embedded := false, tag := "", pkgPath := "runtime", byteOffset := 0 }, { name := "concrete", type := 17, offset := 1, embedded := false, tag := "", pkgPath := "runtime", byteOffset := 8 }, { name := "asserted", type := 17, offset := 2, embedded := false, tag := "", pkgPath := "runtime", byteOffset := 16 }, { name := "missingMethod", type := 9, offset := 3, embedded := false, tag := "", pkgPath := "runtime", byteOffset := 24 }], sz := 4, bytes := 40, z := Value.agg ([Value.pointer none, Value.pointer none, Value.pointer none, Value.string ByteArray.empty]).toArray }
theorem ok96 : TI.ok Tryd.prog 96 i96 := ⟨by kernel_rfl, Tryd.t96, by kernel_rfl, by kernel_rfl, by kernel_rfl, by kernel_rfl⟩
def i97 : TI := { u := .struct #[{ name := "_interface", type := 17, offset := 0, embedded := false, tag := "", pkgPath := "runtime", byteOffset := 0 }, { name := "concrete", type := 17, offset := 1, embedded := false, tag := "", pkgPath := "runtime", byteOffset := 8 }, { name := "asserted", type := 17, offset := 2, embedded := false, tag := "", pkgPath := "runtime", byteOffset := 16 }, { name := "missingMethod", type := 9, offset := 3, embedded := false, tag := "", pkgPath := "runtime", byteOffset := 24 }], sz := 4, bytes := 40, z := Value.agg ([Value.pointer none, Value.pointer none, Value.pointer none, Value.string ByteArray.empty]).toArray }
theorem ok97 : TI.ok Tryd.prog 97 i97 := ⟨by kernel_rfl, Tryd.t97, by kernel_rfl, by kernel_rfl, by kernel_rfl, by kernel_rfl⟩
def i98 : TI := { u := .array 0 16, sz := 0, bytes := 0, z := Value.agg ([]).toArray }
theorem ok98 : TI.ok Tryd.prog 98 i98 := ⟨by kernel_rfl, Tryd.t98, by kernel_rfl, by kernel_rfl, by kernel_rfl, by kernel_rfl⟩
def i99 : TI := { u := .struct #[{ name := "_", type := 98, offset := 0, embedded := false, tag := "", pkgPath := "runtime", byteOffset := 0 }], sz := 0, bytes := 0, z := Value.agg ([]).toArray }
theorem ok99 : TI.ok Tryd.prog 99 i99 := ⟨by kernel_rfl, Tryd.t99, by kernel_rfl, by kernel_rfl, by kernel_rfl, by kernel_rfl⟩
def i100 : TI := { u := .struct #[{ name := "_", type := 98, offset := 0, embedded := false, tag := "", pkgPath := "runtime", byteOffset := 0 }], sz := 0, bytes := 0, z := Value.agg ([]).toArray }
theorem ok100 : TI.ok Tryd.prog 100 i100 := ⟨by kernel_rfl, Tryd.t100, by kernel_rfl, by kernel_rfl, by kernel_rfl, by kernel_rfl⟩
def i101 : TI := { u := .int .u8, sz := 1, bytes := 1, z := Value.int .u8 0 }
theorem ok101 : TI.ok Tryd.prog 101 i101 := ⟨by kernel_rfl, Tryd.t101, by kernel_rfl, by kernel_rfl, by kernel_rfl, by kernel_rfl⟩
def i102 : TI := { u := .int .u8, sz := 1, bytes := 1, z := Value.int .u8 0 }
theorem ok102 : TI.ok Tryd.prog 102 i102 := ⟨by kernel_rfl, Tryd.t102, by kernel_rfl, by kernel_rfl, by kernel_rfl, by kernel_rfl⟩
def i104 : TI := { u := .pointer 5, sz := 1, bytes := 8, z := Value.pointer none }
theorem ok104 : TI.ok Tryd.prog 104 i104 := ⟨by kernel_rfl, Tryd.t104, by kernel_rfl, by kernel_rfl, by kernel_rfl, by kernel_rfl⟩
def i105 : TI := { u := .int .i32, sz := 1, bytes := 4, z := Value.int .i32 0 }
theorem ok105 : TI.ok Tryd.prog 105 i105 := ⟨by kernel_rfl, Tryd.t105, by kernel_rfl, by kernel_rfl, by kernel_rfl, by kernel_rfl⟩
def i106 : TI := { u := .int .i32, sz := 1, bytes := 4, z := Value.int .i32 0 }
theorem ok106 : TI.ok Tryd.prog 106 i106 := ⟨by kernel_rfl, Tryd.t106, by kernel_rfl, by kernel_rfl, by kernel_rfl, by kernel_rfl⟩
def i107 : TI := { u := .struct #[{ name := "Size_", type := 12, offset := 0, embedded := false, tag := "", pkgPath := "", byteOffset := 0 }, { name := "PtrBytes", type := 12, offset := 1, embedded := false, tag := "", pkgPath := "", byteOffset := 8 }, { name := "Hash", type := 22, offset := 2, embedded := false, tag := "", pkgPath := "", byteOffset := 16 }, { name := "TFlag", type := 101, offset := 3, embedded := false, tag := "", pkgPath := "", byteOffset := 20 }, { name := "Align_", type := 5, offset := 4, embedded := false, tag := "", pkgPath := "", byteOffset := 21 }, { name := "FieldAlign_", type := 5, offset := 5, embedded := false, tag := "", pkgPath := "", byteOffset := 22 }, { name := "Kind_", type := 102, offset := 6, embedded := false, tag := "", pkgPath := "", byteOffset := 23 }, { name := "Equal", type := 103, offset := 7, embedded := false, tag := "", pkgPath := "", byteOffset := 24 }, { name := "GCData", type := 104, offset := 8, embedded := false, tag := "", pkgPath := "", byteOffset := 32 }, { name := "Str", type := 105, offset := 9, embedded := false, tag := "", pkgPath := "", byteOffset := 40 }, { name := "PtrToThis", type := 106, offset := 10, embedded := false, tag := "", pkgPath := "", byteOffset := 44 }], sz := 11, bytes := 48, z := Value.agg ([Value.int .u64 0, Value.int .u64 0, Value.int .u32 0, Value.int .u8 0, Value.int .u8 0, Value.int .u8 0, Value.int .u8 0, Value.nilFunc, Value.pointer none, Value.int .i32 0, Value.int .i32 0]).toArray }
theorem ok107 : TI.ok Tryd.prog 107 i107 := ⟨by kernel_rfl, Tryd.t107, by kernel_rfl, by kernel_rfl, by kernel_rfl, by kernel_rfl⟩
def i108 : TI := { u := .struct #[{ name := "Size_", type := 12, offset := 0, embedded := false, tag := "", pkgPath := "", byteOffset := 0 }, { name := "PtrBytes", type := 12, offset := 1, embedded := false, tag := "", pkgPath := "", byteOffset := 8 }, { name := "Hash", type := 22, offset := 2, embedded := false, tag := "", pkgPath := "", byteOffset := 16 }, { name := "TFlag", type := 101, offset := 3, embedded := false, tag := "", pkgPath := "", byteOffset := 20 }, { name := "Align_", type := 5, offset := 4, embedded := false, tag := "", pkgPath := "", byteOffset := 21 }, { name := "FieldAlign_", type := 5, offset := 5, embedded := false, tag := "", pkgPath := "", byteOffset := 22 }, { name := "Kind_", type := 102, offset := 6, embedded := false, tag := "", pkgPath := "", byteOffset := 23 }, { name := "Equal", type := 103, offset := 7, embedded := false, tag := "", pkgPath := "", byteOffset := 24 }, { name := "GCData", type := 104, offset := 8, embedded := false, tag := "", pkgPath := "", byteOffset := 32 }, { name := "Str", type := 105, offset := 9, embedded := false, tag := "", pkgPath := "", byteOffset := 40 }, { name := "PtrToThis", type := 106, offset := 10, embedded := false, tag := "", pkgPath := "", byteOffset := 44 }], sz := 11, bytes := 48, z := Value.agg ([Value.int .u64 0, Value.int .u64 0, Value.int .u32 0, Value.int .u8 0, Value.int .u8 0, Value.int .u8 0, Value.int .u8 0, Value.nilFunc, Value.pointer none, Value.int .i32 0, Value.int .i32 0]).toArray }
theorem ok108 : TI.ok Tryd.prog 108 i108 := ⟨by kernel_rfl, Tryd.t108, by kernel_rfl, by kernel_rfl, by kernel_rfl, by kernel_rfl⟩
def i109 : TI := { u := .unsafePointer, sz := 1, bytes := 8, z := Value.pointer none }
theorem ok109 : TI.ok Tryd.prog 109 i109 := ⟨by kernel_rfl, Tryd.t109, by kernel_rfl, by kernel_rfl, by kernel_rfl, by kernel_rfl⟩
instance types : Types Tryd.prog where
  tbl := [(2, i2), (3, i3), (4, i4), (5, i5), (6, i6), (7, i7), (8, i8), (9, i9), (10, i10), (11, i11), (12, i12), (13, i13), (14, i14), (15, i15), (16, i16), (17, i17), (18, i18), (19, i19), (21, i21), (22, i22), (23, i23), (24, i24), (26, i26), (36, i36), (38, i38), (39, i39), (47, i47), (49, i49), (54, i54), (55, i55), (56, i56), (57, i57), (58, i58), (60, i60), (61, i61), (62, i62), (70, i70), (76, i76), (77, i77), (78, i78), (80, i80), (89, i89), (90, i90), (96, i96), (97, i97), (98, i98), (99, i99), (100, i100), (101, i101), (102, i102), (104, i104), (105, i105), (106, i106), (107, i107), (108, i108), (109, i109)]
  ok := TI.lk_all _ (AllOk.mem ⟨ok2, ok3, ok4, ok5, ok6, ok7, ok8, ok9, ok10, ok11, ok12, ok13, ok14, ok15, ok16, ok17, ok18, ok19, ok21, ok22, ok23, ok24, ok26, ok36, ok38, ok39, ok47, ok49, ok54, ok55, ok56, ok57, ok58, ok60, ok61, ok62, ok70, ok76, ok77, ok78, ok80, ok89, ok90, ok96, ok97, ok98, ok99, ok100, ok101, ok102, ok104, ok105, ok106, ok107, ok108, ok109, trivial⟩)
instance noGuard : NoGuard Tryd.prog where
  ts := [7, 8, 13, 14, 18, 19, 23, 38, 39, 55, 56, 61, 62, 76, 77, 78, 80, 90, 96, 97, 98, 99, 100, 107, 108]
  ok := AllNG.mem ⟨Tryd.eqGuardType7, Tryd.eqGuardType8, Tryd.eqGuardType13, Tryd.eqGuardType14, Tryd.eqGuardType18, Tryd.eqGuardType19, Tryd.eqGuardType23, Tryd.eqGuardType38, Tryd.eqGuardType39, Tryd.eqGuardType55, Tryd.eqGuardType56, Tryd.eqGuardType61, Tryd.eqGuardType62, Tryd.eqGuardType76, Tryd.eqGuardType77, Tryd.eqGuardType78, Tryd.eqGuardType80, Tryd.eqGuardType90, Tryd.eqGuardType96, Tryd.eqGuardType97, Tryd.eqGuardType98, Tryd.eqGuardType99, Tryd.eqGuardType100, Tryd.eqGuardType107, Tryd.eqGuardType108, trivial⟩
theorem mixed : Tryd.prog.follows .mixedOrders = true := by kernel_rfl
end Go.Fw.Tryd
