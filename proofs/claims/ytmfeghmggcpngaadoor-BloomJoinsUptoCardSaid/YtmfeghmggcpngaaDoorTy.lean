/- Part of a proof over YtmfeghmggcpngaaDoor: rules and contracts that the law's text uses. No condition. -/
import Derived.Test.YtmfeghmggcpngaaDoorProg
import Derived.Test.YtmfeghmggcpngaaDoorFwB
set_option maxRecDepth 100000
namespace Go.Fw.Tryd
open Go Go.Proofs
def i2 : TI := { u := .int .i64, sz := 1, bytes := 8, z := Value.int .i64 0 }
theorem ok2 : TI.ok Tryd.prog 2 i2 := ⟨by kernel_rfl, Tryd.t2, by kernel_rfl, by kernel_rfl, by kernel_rfl, by kernel_rfl⟩
def i3 : TI := { u := .int .i64, sz := 1, bytes := 8, z := Value.int .i64 0 }
theorem ok3 : TI.ok Tryd.prog 3 i3 := ⟨by kernel_rfl, Tryd.t3, by kernel_rfl, by kernel_rfl, by kernel_rfl, by kernel_rfl⟩
def i4 : TI := { u := .bool, sz := 1, bytes := 1, z := Value.bool false }
theorem ok4 : TI.ok Tryd.prog 4 i4 := ⟨by kernel_rfl, Tryd.t4, by kernel_rfl, by kernel_rfl, by kernel_rfl, by kernel_rfl⟩
def i5 : TI := { u := .int .u8, sz := 1, bytes := 1, z := Value.int .u8 0 }
theorem ok5 : TI.ok Tryd.prog 5 i5 := ⟨by kernel_rfl, Tryd.t5, by kernel_rfl, by kernel_rfl, by kernel_rfl, by kernel_rfl⟩
def i6 : TI := { u := .int .u8, sz := 1, bytes := 1, z := Value.int .u8 0 }
theorem ok6 : TI.ok Tryd.prog 6 i6 := ⟨by kernel_rfl, Tryd.t6, by kernel_rfl, by kernel_rfl, by kernel_rfl, by kernel_rfl⟩
def i7 : TI := { u := .struct #[{ name := "x", type := 2, offset := 0, embedded := false, tag := "", pkgPath := "runtime", byteOffset := 0 }, { name := "y", type := 3, offset := 1, embedded := false, tag := "", pkgPath := "runtime", byteOffset := 8 }, { name := "signed", type := 4, offset := 2, embedded := false, tag := "", pkgPath := "runtime", byteOffset := 16 }, { name := "code", type := 6, offset := 3, embedded := false, tag := "", pkgPath := "runtime", byteOffset := 17 }], sz := 4, bytes := 24, z := Value.agg ([Value.int .i64 0, Value.int .i64 0, Value.bool false, Value.int .u8 0]).toArray }
theorem ok7 : TI.ok Tryd.prog 7 i7 := ⟨by kernel_rfl, Tryd.t7, by kernel_rfl, by kernel_rfl, by kernel_rfl, by kernel_rfl⟩
def i8 : TI := { u := .struct #[{ name := "x", type := 2, offset := 0, embedded := false, tag := "", pkgPath := "runtime", byteOffset := 0 }, { name := "y", type := 3, offset := 1, embedded := false, tag := "", pkgPath := "runtime", byteOffset := 8 }, { name := "signed", type := 4, offset := 2, embedded := false, tag := "", pkgPath := "runtime", byteOffset := 16 }, { name := "code", type := 6, offset := 3, embedded := false, tag := "", pkgPath := "runtime", byteOffset := 17 }], sz := 4, bytes := 24, z := Value.agg ([Value.int .i64 0, Value.int .i64 0, Value.bool false, Value.int .u8 0]).toArray }
theorem ok8 : TI.ok Tryd.prog 8 i8 := ⟨by kernel_rfl, Tryd.t8, by kernel_rfl, by kernel_rfl, by kernel_rfl, by kernel_rfl⟩
def i9 : TI := { u := .string, sz := 1, bytes := 16, z := Value.string ByteArray.empty }
theorem ok9 : TI.ok Tryd.prog 9 i9 := ⟨by kernel_rfl, Tryd.t9, by kernel_rfl, by kernel_rfl, by kernel_rfl, by kernel_rfl⟩
def i10 : TI := { u := .string, sz := 1, bytes := 16, z := Value.string ByteArray.empty }
theorem ok10 : TI.ok Tryd.prog 10 i10 := ⟨by kernel_rfl, Tryd.t10, by kernel_rfl, by kernel_rfl, by kernel_rfl, by kernel_rfl⟩
def i11 : TI := { u := .string, sz := 1, bytes := 16, z := Value.string ByteArray.empty }
theorem ok11 : TI.ok Tryd.prog 11 i11 := ⟨by kernel_rfl, Tryd.t11, by kernel_rfl, by kernel_rfl, by kernel_rfl, by kernel_rfl⟩
def i12 : TI := { u := .int .u64, sz := 1, bytes := 8, z := Value.int .u64 0 }
theorem ok12 : TI.ok Tryd.prog 12 i12 := ⟨by kernel_rfl, Tryd.t12, by kernel_rfl, by kernel_rfl, by kernel_rfl, by kernel_rfl⟩
def i13 : TI := { u := .struct #[{ name := "msg", type := 9, offset := 0, embedded := false, tag := "", pkgPath := "runtime", byteOffset := 0 }, { name := "addr", type := 12, offset := 1, embedded := false, tag := "", pkgPath := "runtime", byteOffset := 16 }], sz := 2, bytes := 24, z := Value.agg ([Value.string ByteArray.empty, Value.int .u64 0]).toArray }
theorem ok13 : TI.ok Tryd.prog 13 i13 := ⟨by kernel_rfl, Tryd.t13, by kernel_rfl, by kernel_rfl, by kernel_rfl, by kernel_rfl⟩
def i14 : TI := { u := .struct #[{ name := "msg", type := 9, offset := 0, embedded := false, tag := "", pkgPath := "runtime", byteOffset := 0 }, { name := "addr", type := 12, offset := 1, embedded := false, tag := "", pkgPath := "runtime", byteOffset := 16 }], sz := 2, bytes := 24, z := Value.agg ([Value.string ByteArray.empty, Value.int .u64 0]).toArray }
theorem ok14 : TI.ok Tryd.prog 14 i14 := ⟨by kernel_rfl, Tryd.t14, by kernel_rfl, by kernel_rfl, by kernel_rfl, by kernel_rfl⟩
def i15 : TI := { u := .pointer 111, sz := 1, bytes := 8, z := Value.pointer none }
theorem ok15 : TI.ok Tryd.prog 15 i15 := ⟨by kernel_rfl, Tryd.t15, by kernel_rfl, by kernel_rfl, by kernel_rfl, by kernel_rfl⟩
def i16 : TI := { u := .pointer 114, sz := 1, bytes := 8, z := Value.pointer none }
theorem ok16 : TI.ok Tryd.prog 16 i16 := ⟨by kernel_rfl, Tryd.t16, by kernel_rfl, by kernel_rfl, by kernel_rfl, by kernel_rfl⟩
def i17 : TI := { u := .pointer 123, sz := 1, bytes := 8, z := Value.pointer none }
theorem ok17 : TI.ok Tryd.prog 17 i17 := ⟨by kernel_rfl, Tryd.t17, by kernel_rfl, by kernel_rfl, by kernel_rfl, by kernel_rfl⟩
def i18 : TI := { u := .struct #[{ name := "typ", type := 17, offset := 0, embedded := false, tag := "", pkgPath := "internal/runtime/maps", byteOffset := 0 }], sz := 1, bytes := 8, z := Value.agg ([Value.pointer none]).toArray }
theorem ok18 : TI.ok Tryd.prog 18 i18 := ⟨by kernel_rfl, Tryd.t18, by kernel_rfl, by kernel_rfl, by kernel_rfl, by kernel_rfl⟩
def i19 : TI := { u := .struct #[{ name := "typ", type := 17, offset := 0, embedded := false, tag := "", pkgPath := "internal/runtime/maps", byteOffset := 0 }], sz := 1, bytes := 8, z := Value.agg ([Value.pointer none]).toArray }
theorem ok19 : TI.ok Tryd.prog 19 i19 := ⟨by kernel_rfl, Tryd.t19, by kernel_rfl, by kernel_rfl, by kernel_rfl, by kernel_rfl⟩
def i21 : TI := { u := .int .i32, sz := 1, bytes := 4, z := Value.int .i32 0 }
theorem ok21 : TI.ok Tryd.prog 21 i21 := ⟨by kernel_rfl, Tryd.t21, by kernel_rfl, by kernel_rfl, by kernel_rfl, by kernel_rfl⟩
def i22 : TI := { u := .slice 30, sz := 1, bytes := 24, z := Value.slice none 0 0 }
theorem ok22 : TI.ok Tryd.prog 22 i22 := ⟨by kernel_rfl, Tryd.t22, by kernel_rfl, by kernel_rfl, by kernel_rfl, by kernel_rfl⟩
def i24 : TI := { u := .array 256 5, sz := 256, bytes := 256, z := Value.agg (List.replicate 256 (Value.int .u8 0)).toArray }
theorem ok24 : TI.ok Tryd.prog 24 i24 := ⟨by kernel_rfl, Tryd.t24, by kernel_rfl, by kernel_rfl, by kernel_rfl, by kernel_rfl⟩
def i25 : TI := { u := .array 256 5, sz := 256, bytes := 256, z := Value.agg (List.replicate 256 (Value.int .u8 0)).toArray }
theorem ok25 : TI.ok Tryd.prog 25 i25 := ⟨by kernel_rfl, Tryd.t25, by kernel_rfl, by kernel_rfl, by kernel_rfl, by kernel_rfl⟩
def i30 : TI := { u := .slice 5, sz := 1, bytes := 24, z := Value.slice none 0 0 }
theorem ok30 : TI.ok Tryd.prog 30 i30 := ⟨by kernel_rfl, Tryd.t30, by kernel_rfl, by kernel_rfl, by kernel_rfl, by kernel_rfl⟩
def i32 : TI := { u := .array 3 3, sz := 3, bytes := 24, z := Value.agg ([Value.int .i64 0, Value.int .i64 0, Value.int .i64 0]).toArray }
theorem ok32 : TI.ok Tryd.prog 32 i32 := ⟨by kernel_rfl, Tryd.t32, by kernel_rfl, by kernel_rfl, by kernel_rfl, by kernel_rfl⟩
def i38 : TI := { u := .int .i64, sz := 1, bytes := 8, z := Value.int .i64 0 }
theorem ok38 : TI.ok Tryd.prog 38 i38 := ⟨by kernel_rfl, Tryd.t38, by kernel_rfl, by kernel_rfl, by kernel_rfl, by kernel_rfl⟩
def i41 : TI := { u := .slice 3, sz := 1, bytes := 24, z := Value.slice none 0 0 }
theorem ok41 : TI.ok Tryd.prog 41 i41 := ⟨by kernel_rfl, Tryd.t41, by kernel_rfl, by kernel_rfl, by kernel_rfl, by kernel_rfl⟩
def i45 : TI := { u := .slice 22, sz := 1, bytes := 24, z := Value.slice none 0 0 }
theorem ok45 : TI.ok Tryd.prog 45 i45 := ⟨by kernel_rfl, Tryd.t45, by kernel_rfl, by kernel_rfl, by kernel_rfl, by kernel_rfl⟩
def i46 : TI := { u := .slice 25, sz := 1, bytes := 24, z := Value.slice none 0 0 }
theorem ok46 : TI.ok Tryd.prog 46 i46 := ⟨by kernel_rfl, Tryd.t46, by kernel_rfl, by kernel_rfl, by kernel_rfl, by kernel_rfl⟩
def i49 : TI := { u := .array 32 5, sz := 32, bytes := 32, z := Value.agg (List.replicate 32 (Value.int .u8 0)).toArray }
theorem ok49 : TI.ok Tryd.prog 49 i49 := ⟨by kernel_rfl, Tryd.t49, by kernel_rfl, by kernel_rfl, by kernel_rfl, by kernel_rfl⟩
def i50 : TI := { u := .array 32 5, sz := 32, bytes := 32, z := Value.agg (List.replicate 32 (Value.int .u8 0)).toArray }
theorem ok50 : TI.ok Tryd.prog 50 i50 := ⟨by kernel_rfl, Tryd.t50, by kernel_rfl, by kernel_rfl, by kernel_rfl, by kernel_rfl⟩
def i54 : TI := { u := .int .u64, sz := 1, bytes := 8, z := Value.int .u64 0 }
theorem ok54 : TI.ok Tryd.prog 54 i54 := ⟨by kernel_rfl, Tryd.t54, by kernel_rfl, by kernel_rfl, by kernel_rfl, by kernel_rfl⟩
def i55 : TI := { u := .struct #[], sz := 0, bytes := 0, z := Value.agg ([]).toArray }
theorem ok55 : TI.ok Tryd.prog 55 i55 := ⟨by kernel_rfl, Tryd.t55, by kernel_rfl, by kernel_rfl, by kernel_rfl, by kernel_rfl⟩
def i56 : TI := { u := .struct #[], sz := 0, bytes := 0, z := Value.agg ([]).toArray }
theorem ok56 : TI.ok Tryd.prog 56 i56 := ⟨by kernel_rfl, Tryd.t56, by kernel_rfl, by kernel_rfl, by kernel_rfl, by kernel_rfl⟩
def i57 : TI := { u := .struct #[], sz := 0, bytes := 0, z := Value.agg ([]).toArray }
theorem ok57 : TI.ok Tryd.prog 57 i57 := ⟨by kernel_rfl, Tryd.t57, by kernel_rfl, by kernel_rfl, by kernel_rfl, by kernel_rfl⟩
def i58 : TI := { u := .struct #[], sz := 0, bytes := 0, z := Value.agg ([]).toArray }
theorem ok58 : TI.ok Tryd.prog 58 i58 := ⟨by kernel_rfl, Tryd.t58, by kernel_rfl, by kernel_rfl, by kernel_rfl, by kernel_rfl⟩
def i59 : TI := { u := .int .u64, sz := 1, bytes := 8, z := Value.int .u64 0 }
theorem ok59 : TI.ok Tryd.prog 59 i59 := ⟨by kernel_rfl, Tryd.t59, by kernel_rfl, by kernel_rfl, by kernel_rfl, by kernel_rfl⟩
def i60 : TI := { u := .struct #[{ name := "_", type := 57, offset := 0, embedded := false, tag := "", pkgPath := "sync/atomic", byteOffset := 0 }, { name := "_", type := 58, offset := 0, embedded := false, tag := "", pkgPath := "sync/atomic", byteOffset := 0 }, { name := "v", type := 59, offset := 0, embedded := false, tag := "", pkgPath := "sync/atomic", byteOffset := 0 }], sz := 1, bytes := 8, z := Value.agg ([Value.int .u64 0]).toArray }
theorem ok60 : TI.ok Tryd.prog 60 i60 := ⟨by kernel_rfl, Tryd.t60, by kernel_rfl, by kernel_rfl, by kernel_rfl, by kernel_rfl⟩
def i61 : TI := { u := .struct #[{ name := "_", type := 57, offset := 0, embedded := false, tag := "", pkgPath := "sync/atomic", byteOffset := 0 }, { name := "_", type := 58, offset := 0, embedded := false, tag := "", pkgPath := "sync/atomic", byteOffset := 0 }, { name := "v", type := 59, offset := 0, embedded := false, tag := "", pkgPath := "sync/atomic", byteOffset := 0 }], sz := 1, bytes := 8, z := Value.agg ([Value.int .u64 0]).toArray }
theorem ok61 : TI.ok Tryd.prog 61 i61 := ⟨by kernel_rfl, Tryd.t61, by kernel_rfl, by kernel_rfl, by kernel_rfl, by kernel_rfl⟩
def i62 : TI := { u := .int .u32, sz := 1, bytes := 4, z := Value.int .u32 0 }
theorem ok62 : TI.ok Tryd.prog 62 i62 := ⟨by kernel_rfl, Tryd.t62, by kernel_rfl, by kernel_rfl, by kernel_rfl, by kernel_rfl⟩
def i63 : TI := { u := .struct #[{ name := "noCopy", type := 56, offset := 0, embedded := false, tag := "", pkgPath := "sync", byteOffset := 0 }, { name := "state", type := 61, offset := 0, embedded := false, tag := "", pkgPath := "sync", byteOffset := 0 }, { name := "sema", type := 62, offset := 1, embedded := false, tag := "", pkgPath := "sync", byteOffset := 8 }], sz := 2, bytes := 16, z := Value.agg ([Value.int .u64 0, Value.int .u32 0]).toArray }
theorem ok63 : TI.ok Tryd.prog 63 i63 := ⟨by kernel_rfl, Tryd.t63, by kernel_rfl, by kernel_rfl, by kernel_rfl, by kernel_rfl⟩
def i64 : TI := { u := .struct #[{ name := "noCopy", type := 56, offset := 0, embedded := false, tag := "", pkgPath := "sync", byteOffset := 0 }, { name := "state", type := 61, offset := 0, embedded := false, tag := "", pkgPath := "sync", byteOffset := 0 }, { name := "sema", type := 62, offset := 1, embedded := false, tag := "", pkgPath := "sync", byteOffset := 8 }], sz := 2, bytes := 16, z := Value.agg ([Value.int .u64 0, Value.int .u32 0]).toArray }
theorem ok64 : TI.ok Tryd.prog 64 i64 := ⟨by kernel_rfl, Tryd.t64, by kernel_rfl, by kernel_rfl, by kernel_rfl, by kernel_rfl⟩
def i69 : TI := { u := .pointer 64, sz := 1, bytes := 8, z := Value.pointer none }
theorem ok69 : TI.ok Tryd.prog 69 i69 := ⟨by kernel_rfl, Tryd.t69, by kernel_rfl, by kernel_rfl, by kernel_rfl, by kernel_rfl⟩
def i71 : TI := { u := .unsafePointer, sz := 1, bytes := 8, z := Value.pointer none }
theorem ok71 : TI.ok Tryd.prog 71 i71 := ⟨by kernel_rfl, Tryd.t71, by kernel_rfl, by kernel_rfl, by kernel_rfl, by kernel_rfl⟩
def i73 : TI := { u := .int .i64, sz := 1, bytes := 8, z := Value.int .i64 0 }
theorem ok73 : TI.ok Tryd.prog 73 i73 := ⟨by kernel_rfl, Tryd.t73, by kernel_rfl, by kernel_rfl, by kernel_rfl, by kernel_rfl⟩
def i77 : TI := { u := .pointer 62, sz := 1, bytes := 8, z := Value.pointer none }
theorem ok77 : TI.ok Tryd.prog 77 i77 := ⟨by kernel_rfl, Tryd.t77, by kernel_rfl, by kernel_rfl, by kernel_rfl, by kernel_rfl⟩
def i85 : TI := { u := .array 25 59, sz := 25, bytes := 200, z := Value.agg (List.replicate 25 (Value.int .u64 0)).toArray }
theorem ok85 : TI.ok Tryd.prog 85 i85 := ⟨by kernel_rfl, Tryd.t85, by kernel_rfl, by kernel_rfl, by kernel_rfl, by kernel_rfl⟩
def i86 : TI := { u := .array 136 5, sz := 136, bytes := 136, z := Value.agg (List.replicate 136 (Value.int .u8 0)).toArray }
theorem ok86 : TI.ok Tryd.prog 86 i86 := ⟨by kernel_rfl, Tryd.t86, by kernel_rfl, by kernel_rfl, by kernel_rfl, by kernel_rfl⟩
def i87 : TI := { u := .struct #[{ name := "kind", type := 3, offset := 0, embedded := false, tag := "", pkgPath := "waybill/keccak", byteOffset := 0 }, { name := "lanes", type := 85, offset := 1, embedded := false, tag := "", pkgPath := "waybill/keccak", byteOffset := 8 }, { name := "part", type := 86, offset := 26, embedded := false, tag := "", pkgPath := "waybill/keccak", byteOffset := 208 }, { name := "held", type := 3, offset := 162, embedded := false, tag := "", pkgPath := "waybill/keccak", byteOffset := 344 }, { name := "long", type := 3, offset := 163, embedded := false, tag := "", pkgPath := "waybill/keccak", byteOffset := 352 }], sz := 164, bytes := 360, z := Value.agg ([Value.int .i64 0] ++ List.replicate 25 (Value.int .u64 0) ++ List.replicate 136 (Value.int .u8 0) ++ List.replicate 2 (Value.int .i64 0)).toArray }
theorem ok87 : TI.ok Tryd.prog 87 i87 := ⟨by kernel_rfl, Tryd.t87, by kernel_rfl, by kernel_rfl, by kernel_rfl, by kernel_rfl⟩
def i88 : TI := { u := .struct #[{ name := "kind", type := 3, offset := 0, embedded := false, tag := "", pkgPath := "waybill/keccak", byteOffset := 0 }, { name := "lanes", type := 85, offset := 1, embedded := false, tag := "", pkgPath := "waybill/keccak", byteOffset := 8 }, { name := "part", type := 86, offset := 26, embedded := false, tag := "", pkgPath := "waybill/keccak", byteOffset := 208 }, { name := "held", type := 3, offset := 162, embedded := false, tag := "", pkgPath := "waybill/keccak", byteOffset := 344 }, { name := "long", type := 3, offset := 163, embedded := false, tag := "", pkgPath := "waybill/keccak", byteOffset := 352 }], sz := 164, bytes := 360, z := Value.agg ([Value.int .i64 0] ++ List.replicate 25 (Value.int .u64 0) ++ List.replicate 136 (Value.int .u8 0) ++ List.replicate 2 (Value.int .i64 0)).toArray }
theorem ok88 : TI.ok Tryd.prog 88 i88 := ⟨by kernel_rfl, Tryd.t88, by kernel_rfl, by kernel_rfl, by kernel_rfl, by kernel_rfl⟩
def i93 : TI := { u := .pointer 61, sz := 1, bytes := 8, z := Value.pointer none }
theorem ok93 : TI.ok Tryd.prog 93 i93 := ⟨by kernel_rfl, Tryd.t93, by kernel_rfl, by kernel_rfl, by kernel_rfl, by kernel_rfl⟩
def i95 : TI := { u := .pointer 59, sz := 1, bytes := 8, z := Value.pointer none }
theorem ok95 : TI.ok Tryd.prog 95 i95 := ⟨by kernel_rfl, Tryd.t95, by kernel_rfl, by kernel_rfl, by kernel_rfl, by kernel_rfl⟩
def i99 : TI := { u := .pointer 88, sz := 1, bytes := 8, z := Value.pointer none }
theorem ok99 : TI.ok Tryd.prog 99 i99 := ⟨by kernel_rfl, Tryd.t99, by kernel_rfl, by kernel_rfl, by kernel_rfl, by kernel_rfl⟩
def i100 : TI := { u := .array 2 5, sz := 2, bytes := 2, z := Value.agg ([Value.int .u8 0, Value.int .u8 0]).toArray }
theorem ok100 : TI.ok Tryd.prog 100 i100 := ⟨by kernel_rfl, Tryd.t100, by kernel_rfl, by kernel_rfl, by kernel_rfl, by kernel_rfl⟩
def i101 : TI := { u := .array 24 59, sz := 24, bytes := 192, z := Value.agg (List.replicate 24 (Value.int .u64 0)).toArray }
theorem ok101 : TI.ok Tryd.prog 101 i101 := ⟨by kernel_rfl, Tryd.t101, by kernel_rfl, by kernel_rfl, by kernel_rfl, by kernel_rfl⟩
def i102 : TI := { u := .array 5 59, sz := 5, bytes := 40, z := Value.agg ([Value.int .u64 0, Value.int .u64 0, Value.int .u64 0, Value.int .u64 0, Value.int .u64 0]).toArray }
theorem ok102 : TI.ok Tryd.prog 102 i102 := ⟨by kernel_rfl, Tryd.t102, by kernel_rfl, by kernel_rfl, by kernel_rfl, by kernel_rfl⟩
def i105 : TI := { u := .array 25 3, sz := 25, bytes := 200, z := Value.agg (List.replicate 25 (Value.int .i64 0)).toArray }
theorem ok105 : TI.ok Tryd.prog 105 i105 := ⟨by kernel_rfl, Tryd.t105, by kernel_rfl, by kernel_rfl, by kernel_rfl, by kernel_rfl⟩
def i110 : TI := { u := .struct #[{ name := "_interface", type := 17, offset := 0, embedded := false, tag := "", pkgPath := "runtime", byteOffset := 0 }, { name := "concrete", type := 17, offset := 1, embedded := false, tag := "", pkgPath := "runtime", byteOffset := 8 }, { name := "asserted", type := 17, offset := 2, embedded := false, tag := "", pkgPath := "runtime", byteOffset := 16 }, { name := "missingMethod", type := 9, offset := 3, embedded := false, tag := "", pkgPath := "runtime", byteOffset := 24 }], sz := 4, bytes := 40, z := Value.agg ([Value.pointer none, Value.pointer none, Value.pointer none, Value.string ByteArray.empty]).toArray }
theorem ok110 : TI.ok Tryd.prog 110 i110 := ⟨by kernel_rfl, Tryd.t110, by kernel_rfl, by kernel_rfl, by kernel_rfl, by kernel_rfl⟩
def i111 : TI := { u := .struct #[{ name := "_interface", type := 17, offset := 0, embedded := false, tag := "", pkgPath := "runtime", byteOffset := 0 }, { name := "concrete", type := 17, offset := 1, embedded := false, tag := "", pkgPath := "runtime", byteOffset := 8 }, { name := "asserted", type := 17, offset := 2, embedded := false, tag := "", pkgPath := "runtime", byteOffset := 16 }, { name := "missingMethod", type := 9, offset := 3, embedded := false, tag := "", pkgPath := "runtime", byteOffset := 24 }], sz := 4, bytes := 40, z := Value.agg ([Value.pointer none, Value.pointer none, Value.pointer none, Value.string ByteArray.empty]).toArray }
theorem ok111 : TI.ok Tryd.prog 111 i111 := ⟨by kernel_rfl, Tryd.t111, by kernel_rfl, by kernel_rfl, by kernel_rfl, by kernel_rfl⟩
def i112 : TI := { u := .array 0 16, sz := 0, bytes := 0, z := Value.agg ([]).toArray }
theorem ok112 : TI.ok Tryd.prog 112 i112 := ⟨by kernel_rfl, Tryd.t112, by kernel_rfl, by kernel_rfl, by kernel_rfl, by kernel_rfl⟩
def i113 : TI := { u := .struct #[{ name := "_", type := 112, offset := 0, embedded := false, tag := "", pkgPath := "runtime", byteOffset := 0 }], sz := 0, bytes := 0, z := Value.agg ([]).toArray }
theorem ok113 : TI.ok Tryd.prog 113 i113 := ⟨by kernel_rfl, Tryd.t113, by kernel_rfl, by kernel_rfl, by kernel_rfl, by kernel_rfl⟩
def i114 : TI := { u := .struct #[{ name := "_", type := 112, offset := 0, embedded := false, tag := "", pkgPath := "runtime", byteOffset := 0 }], sz := 0, bytes := 0, z := Value.agg ([]).toArray }
theorem ok114 : TI.ok Tryd.prog 114 i114 := ⟨by kernel_rfl, Tryd.t114, by kernel_rfl, by kernel_rfl, by kernel_rfl, by kernel_rfl⟩
def i116 : TI := { u := .int .u8, sz := 1, bytes := 1, z := Value.int .u8 0 }
theorem ok116 : TI.ok Tryd.prog 116 i116 := ⟨by kernel_rfl, Tryd.t116, by kernel_rfl, by kernel_rfl, by kernel_rfl, by kernel_rfl⟩
def i117 : TI := { u := .int .u8, sz := 1, bytes := 1, z := Value.int .u8 0 }
theorem ok117 : TI.ok Tryd.prog 117 i117 := ⟨by kernel_rfl, Tryd.t117, by kernel_rfl, by kernel_rfl, by kernel_rfl, by kernel_rfl⟩
def i119 : TI := { u := .pointer 5, sz := 1, bytes := 8, z := Value.pointer none }
theorem ok119 : TI.ok Tryd.prog 119 i119 := ⟨by kernel_rfl, Tryd.t119, by kernel_rfl, by kernel_rfl, by kernel_rfl, by kernel_rfl⟩
def i120 : TI := { u := .int .i32, sz := 1, bytes := 4, z := Value.int .i32 0 }
theorem ok120 : TI.ok Tryd.prog 120 i120 := ⟨by kernel_rfl, Tryd.t120, by kernel_rfl, by kernel_rfl, by kernel_rfl, by kernel_rfl⟩
def i121 : TI := { u := .int .i32, sz := 1, bytes := 4, z := Value.int .i32 0 }
theorem ok121 : TI.ok Tryd.prog 121 i121 := ⟨by kernel_rfl, Tryd.t121, by kernel_rfl, by kernel_rfl, by kernel_rfl, by kernel_rfl⟩
def i122 : TI := { u := .struct #[{ name := "Size_", type := 12, offset := 0, embedded := false, tag := "", pkgPath := "", byteOffset := 0 }, { name := "PtrBytes", type := 12, offset := 1, embedded := false, tag := "", pkgPath := "", byteOffset := 8 }, { name := "Hash", type := 62, offset := 2, embedded := false, tag := "", pkgPath := "", byteOffset := 16 }, { name := "TFlag", type := 116, offset := 3, embedded := false, tag := "", pkgPath := "", byteOffset := 20 }, { name := "Align_", type := 5, offset := 4, embedded := false, tag := "", pkgPath := "", byteOffset := 21 }, { name := "FieldAlign_", type := 5, offset := 5, embedded := false, tag := "", pkgPath := "", byteOffset := 22 }, { name := "Kind_", type := 117, offset := 6, embedded := false, tag := "", pkgPath := "", byteOffset := 23 }, { name := "Equal", type := 118, offset := 7, embedded := false, tag := "", pkgPath := "", byteOffset := 24 }, { name := "GCData", type := 119, offset := 8, embedded := false, tag := "", pkgPath := "", byteOffset := 32 }, { name := "Str", type := 120, offset := 9, embedded := false, tag := "", pkgPath := "", byteOffset := 40 }, { name := "PtrToThis", type := 121, offset := 10, embedded := false, tag := "", pkgPath := "", byteOffset := 44 }], sz := 11, bytes := 48, z := Value.agg ([Value.int .u64 0, Value.int .u64 0, Value.int .u32 0, Value.int .u8 0, Value.int .u8 0, Value.int .u8 0, Value.int .u8 0, Value.nilFunc, Value.pointer none, Value.int .i32 0, Value.int .i32 0]).toArray }
theorem ok122 : TI.ok Tryd.prog 122 i122 := ⟨by kernel_rfl, Tryd.t122, by kernel_rfl, by kernel_rfl, by kernel_rfl, by kernel_rfl⟩
def i123 : TI := { u := .struct #[{ name := "Size_", type := 12, offset := 0, embedded := false, tag := "", pkgPath := "", byteOffset := 0 }, { name := "PtrBytes", type := 12, offset := 1, embedded := false, tag := "", pkgPath := "", byteOffset := 8 }, { name := "Hash", type := 62, offset := 2, embedded := false, tag := "", pkgPath := "", byteOffset := 16 }, { name := "TFlag", type := 116, offset := 3, embedded := false, tag := "", pkgPath := "", byteOffset := 20 }, { name := "Align_", type := 5, offset := 4, embedded := false, tag := "", pkgPath := "", byteOffset := 21 }, { name := "FieldAlign_", type := 5, offset := 5, embedded := false, tag := "", pkgPath := "", byteOffset := 22 }, { name := "Kind_", type := 117, offset := 6, embedded := false, tag := "", pkgPath := "", byteOffset := 23 }, { name := "Equal", type := 118, offset := 7, embedded := false, tag := "", pkgPath := "", byteOffset := 24 }, { name := "GCData", type := 119, offset := 8, embedded := false, tag := "", pkgPath := "", byteOffset := 32 }, { name := "Str", type := 120, offset := 9, embedded := false, tag := "", pkgPath := "", byteOffset := 40 }, { name := "PtrToThis", type := 121, offset := 10, embedded := false, tag := "", pkgPath := "", byteOffset := 44 }], sz := 11, bytes := 48, z := Value.agg ([Value.int .u64 0, Value.int .u64 0, Value.int .u32 0, Value.int .u8 0, Value.int .u8 0, Value.int .u8 0, Value.int .u8 0, Value.nilFunc, Value.pointer none, Value.int .i32 0, Value.int .i32 0]).toArray }
theorem ok123 : TI.ok Tryd.prog 123 i123 := ⟨by kernel_rfl, Tryd.t123, by kernel_rfl, by kernel_rfl, by kernel_rfl, by kernel_rfl⟩
instance types : Types Tryd.prog where
  tbl := [(2, i2), (3, i3), (4, i4), (5, i5), (6, i6), (7, i7), (8, i8), (9, i9), (10, i10), (11, i11), (12, i12), (13, i13), (14, i14), (15, i15), (16, i16), (17, i17), (18, i18), (19, i19), (21, i21), (22, i22), (24, i24), (25, i25), (30, i30), (32, i32), (38, i38), (41, i41), (45, i45), (46, i46), (49, i49), (50, i50), (54, i54), (55, i55), (56, i56), (57, i57), (58, i58), (59, i59), (60, i60), (61, i61), (62, i62), (63, i63), (64, i64), (69, i69), (71, i71), (73, i73), (77, i77), (85, i85), (86, i86), (87, i87), (88, i88), (93, i93), (95, i95), (99, i99), (100, i100), (101, i101), (102, i102), (105, i105), (110, i110), (111, i111), (112, i112), (113, i113), (114, i114), (116, i116), (117, i117), (119, i119), (120, i120), (121, i121), (122, i122), (123, i123)]
  ok := TI.lk_all _ (AllOk.mem ⟨ok2, ok3, ok4, ok5, ok6, ok7, ok8, ok9, ok10, ok11, ok12, ok13, ok14, ok15, ok16, ok17, ok18, ok19, ok21, ok22, ok24, ok25, ok30, ok32, ok38, ok41, ok45, ok46, ok49, ok50, ok54, ok55, ok56, ok57, ok58, ok59, ok60, ok61, ok62, ok63, ok64, ok69, ok71, ok73, ok77, ok85, ok86, ok87, ok88, ok93, ok95, ok99, ok100, ok101, ok102, ok105, ok110, ok111, ok112, ok113, ok114, ok116, ok117, ok119, ok120, ok121, ok122, ok123, trivial⟩)
instance noGuard : NoGuard Tryd.prog where
  ts := [7, 8, 13, 14, 18, 19, 24, 25, 32, 49, 50, 55, 56, 57, 58, 60, 61, 63, 64, 85, 86, 87, 88, 100, 101, 102, 105, 110, 111, 112, 113, 114, 122, 123]
  ok := AllNG.mem ⟨Tryd.eqGuardType7, Tryd.eqGuardType8, Tryd.eqGuardType13, Tryd.eqGuardType14, Tryd.eqGuardType18, Tryd.eqGuardType19, Tryd.eqGuardType24, Tryd.eqGuardType25, Tryd.eqGuardType32, Tryd.eqGuardType49, Tryd.eqGuardType50, Tryd.eqGuardType55, Tryd.eqGuardType56, Tryd.eqGuardType57, Tryd.eqGuardType58, Tryd.eqGuardType60, Tryd.eqGuardType61, Tryd.eqGuardType63, Tryd.eqGuardType64, Tryd.eqGuardType85, Tryd.eqGuardType86, Tryd.eqGuardType87, Tryd.eqGuardType88, Tryd.eqGuardType100, Tryd.eqGuardType101, Tryd.eqGuardType102, Tryd.eqGuardType105, Tryd.eqGuardType110, Tryd.eqGuardType111, Tryd.eqGuardType112, Tryd.eqGuardType113, Tryd.eqGuardType114, Tryd.eqGuardType122, Tryd.eqGuardType123, trivial⟩
theorem mixed : Tryd.prog.follows .mixedOrders = true := by kernel_rfl
end Go.Fw.Tryd
