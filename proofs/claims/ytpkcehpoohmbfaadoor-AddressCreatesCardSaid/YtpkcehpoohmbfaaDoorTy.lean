/- Part of a proof: rules that its law uses. -/
import Derived.Test.YtpkcehpoohmbfaaDoorProg
import Derived.Test.YtpkcehpoohmbfaaDoorFwB
set_option maxRecDepth 100000
namespace Go.Fw.Tryd
open Go Go.Proofs
def i2 : TI := { u := .int .i64, sz := 1, bytes := 8, z := Value.int .i64 0 }
theorem ok2 : TI.ok Tryd.prog 2 i2 := ⟨by kernel_rfl, Tryd.t2, by kernel_rfl, by kernel_rfl, by kernel_rfl, by kernel_rfl⟩
def i3 : TI := { u := .int .i64, sz := 1, bytes := 8, z := Value.int .i64 0 }
theorem ok3 : TI.ok Tryd.prog 3 i3 := ⟨by kernel_rfl, Tryd.t3, by kernel_rfl, by kernel_rfl, by kernel_rfl, by kernel_rfl⟩
def i4 : TI := { u := .bool, sz := 1, bytes := 1, z := Value.bool false }
theorem ok4 : TI.ok Tryd.prog 4 i4 := ⟨by kernel_rfl, Tryd.t4, by kernel_rfl, by kernel_rfl, by kernel_rfl, by kernel_rfl⟩
def i5 : TI := { u := .int .u8, sz := 1, bytes := 1, z := Value.int .u8 0 }
theorem ok5 : TI.ok Tryd.prog 5 i5 := ⟨by kernel_rfl, Tryd.t5, by kernel_rfl, by kernel_rfl, by kernel_rfl, by kernel_rfl⟩
def i6 : TI := { u := .int .u8, sz := 1, bytes := 1, z := Value.int .u8 0 }
theorem ok6 : TI.ok Tryd.prog 6 i6 := ⟨by kernel_rfl, Tryd.t6, by kernel_rfl, by kernel_rfl, by kernel_rfl, by kernel_rfl⟩
def i7 : TI := { u := .struct #[{ name := "x", type := 2, offset := 0, embedded := false, tag := "", pkgPath := "runtime", byteOffset := 0 }, { name := "y", type := 3, offset := 1, embedded := false, tag := "", pkgPath := "runtime", byteOffset := 8 }, { name := "signed", type := 4, offset := 2, embedded := false, tag := "", pkgPath := "runtime", byteOffset := 16 }, { name := "code", type := 6, offset := 3, embedded := false, tag := "", pkgPath := "runtime", byteOffset := 17 }], sz := 4, bytes := 24, z := Value.agg ([Value.int .i64 0, Value.int .i64 0, Value.bool false, Value.int .u8 0]).toArray }
theorem ok7 : TI.ok Tryd.prog 7 i7 := ⟨by kernel_rfl, Tryd.t7, by kernel_rfl, by kernel_rfl, by kernel_rfl, by kernel_rfl⟩
def i8 : TI := { u := .struct #[{ name := "x", type := 2, offset := 0, embedded := false, tag := "", pkgPath := "runtime", byteOffset := 0 }, { name := "y", type := 3, offset := 1, embedded := false, tag := "", pkgPath := "runtime", byteOffset := 8 }, { name := "signed", type := 4, offset := 2, embedded := false, tag := "", pkgPath := "runtime", byteOffset := 16 }, { name := "code", type := 6, offset := 3, embedded := false, tag := "", pkgPath := "runtime", byteOffset := 17 }], sz := 4, bytes := 24, z := Value.agg ([Value.int .i64 0, Value.int .i64 0, Value.bool false, Value.int .u8 0]).toArray }
theorem ok8 : TI.ok Tryd.prog 8 i8 := ⟨by kernel_rfl, Tryd.t8, by kernel_rfl, by kernel_rfl, by kernel_rfl, by kernel_rfl⟩
def i9 : TI := { u := .string, sz := 1, bytes := 16, z := Value.string ByteArray.empty }
theorem ok9 : TI.ok Tryd.prog 9 i9 := ⟨by kernel_rfl, Tryd.t9, by kernel_rfl, by kernel_rfl, by kernel_rfl, by kernel_rfl⟩
def i10 : TI := { u := .string, sz := 1, bytes := 16, z := Value.string ByteArray.empty }
theorem ok10 : TI.ok Tryd.prog 10 i10 := ⟨by kernel_rfl, Tryd.t10, by kernel_rfl, by kernel_rfl, by kernel_rfl, by kernel_rfl⟩
def i11 : TI := { u := .string, sz := 1, bytes := 16, z := Value.string ByteArray.empty }
theorem ok11 : TI.ok Tryd.prog 11 i11 := ⟨by kernel_rfl, Tryd.t11, by kernel_rfl, by kernel_rfl, by kernel_rfl, by kernel_rfl⟩
def i12 : TI := { u := .int .u64, sz := 1, bytes := 8, z := Value.int .u64 0 }
theorem ok12 : TI.ok Tryd.prog 12 i12 := ⟨by kernel_rfl, Tryd.t12, by kernel_rfl, by kernel_rfl, by kernel_rfl, by kernel_rfl⟩
def i13 : TI := { u := .struct #[{ name := "msg", type := 9, offset := 0, embedded := false, tag := "", pkgPath := "runtime", byteOffset := 0 }, { name := "addr", type := 12, offset := 1, embedded := false, tag := "", pkgPath := "runtime", byteOffset := 16 }], sz := 2, bytes := 24, z := Value.agg ([Value.string ByteArray.empty, Value.int .u64 0]).toArray }
theorem ok13 : TI.ok Tryd.prog 13 i13 := ⟨by kernel_rfl, Tryd.t13, by kernel_rfl, by kernel_rfl, by kernel_rfl, by kernel_rfl⟩
def i14 : TI := { u := .struct #[{ name := "msg", type := 9, offset := 0, embedded := false, tag := "", pkgPath := "runtime", byteOffset := 0 }, { name := "addr", type := 12, offset := 1, embedded := false, tag := "", pkgPath := "runtime", byteOffset := 16 }], sz := 2, bytes := 24, z := Value.agg ([Value.string ByteArray.empty, Value.int .u64 0]).toArray }
theorem ok14 : TI.ok Tryd.prog 14 i14 := ⟨by kernel_rfl, Tryd.t14, by kernel_rfl, by kernel_rfl, by kernel_rfl, by kernel_rfl⟩
def i15 : TI := { u := .pointer 188, sz := 1, bytes := 8, z := Value.pointer none }
theorem ok15 : TI.ok Tryd.prog 15 i15 := ⟨by kernel_rfl, Tryd.t15, by kernel_rfl, by kernel_rfl, by kernel_rfl, by kernel_rfl⟩
def i16 : TI := { u := .pointer 191, sz := 1, bytes := 8, z := Value.pointer none }
theorem ok16 : TI.ok Tryd.prog 16 i16 := ⟨by kernel_rfl, Tryd.t16, by kernel_rfl, by kernel_rfl, by kernel_rfl, by kernel_rfl⟩
def i17 : TI := { u := .pointer 200, sz := 1, bytes := 8, z := Value.pointer none }
theorem ok17 : TI.ok Tryd.prog 17 i17 := ⟨by kernel_rfl, Tryd.t17, by kernel_rfl, by kernel_rfl, by kernel_rfl, by kernel_rfl⟩
def i18 : TI := { u := .struct #[{ name := "typ", type := 17, offset := 0, embedded := false, tag := "", pkgPath := "internal/runtime/maps", byteOffset := 0 }], sz := 1, bytes := 8, z := Value.agg ([Value.pointer none]).toArray }
theorem ok18 : TI.ok Tryd.prog 18 i18 := ⟨by kernel_rfl, Tryd.t18, by kernel_rfl, by kernel_rfl, by kernel_rfl, by kernel_rfl⟩
def i19 : TI := { u := .struct #[{ name := "typ", type := 17, offset := 0, embedded := false, tag := "", pkgPath := "internal/runtime/maps", byteOffset := 0 }], sz := 1, bytes := 8, z := Value.agg ([Value.pointer none]).toArray }
theorem ok19 : TI.ok Tryd.prog 19 i19 := ⟨by kernel_rfl, Tryd.t19, by kernel_rfl, by kernel_rfl, by kernel_rfl, by kernel_rfl⟩
def i21 : TI := { u := .int .i32, sz := 1, bytes := 4, z := Value.int .i32 0 }
theorem ok21 : TI.ok Tryd.prog 21 i21 := ⟨by kernel_rfl, Tryd.t21, by kernel_rfl, by kernel_rfl, by kernel_rfl, by kernel_rfl⟩
def i22 : TI := { u := .array 20 5, sz := 20, bytes := 20, z := Value.agg (List.replicate 20 (Value.int .u8 0)).toArray }
theorem ok22 : TI.ok Tryd.prog 22 i22 := ⟨by kernel_rfl, Tryd.t22, by kernel_rfl, by kernel_rfl, by kernel_rfl, by kernel_rfl⟩
def i23 : TI := { u := .array 20 5, sz := 20, bytes := 20, z := Value.agg (List.replicate 20 (Value.int .u8 0)).toArray }
theorem ok23 : TI.ok Tryd.prog 23 i23 := ⟨by kernel_rfl, Tryd.t23, by kernel_rfl, by kernel_rfl, by kernel_rfl, by kernel_rfl⟩
def i24 : TI := { u := .int .u64, sz := 1, bytes := 8, z := Value.int .u64 0 }
theorem ok24 : TI.ok Tryd.prog 24 i24 := ⟨by kernel_rfl, Tryd.t24, by kernel_rfl, by kernel_rfl, by kernel_rfl, by kernel_rfl⟩
def i25 : TI := { u := .array 32 5, sz := 32, bytes := 32, z := Value.agg (List.replicate 32 (Value.int .u8 0)).toArray }
theorem ok25 : TI.ok Tryd.prog 25 i25 := ⟨by kernel_rfl, Tryd.t25, by kernel_rfl, by kernel_rfl, by kernel_rfl, by kernel_rfl⟩
def i26 : TI := { u := .array 32 5, sz := 32, bytes := 32, z := Value.agg (List.replicate 32 (Value.int .u8 0)).toArray }
theorem ok26 : TI.ok Tryd.prog 26 i26 := ⟨by kernel_rfl, Tryd.t26, by kernel_rfl, by kernel_rfl, by kernel_rfl, by kernel_rfl⟩
def i27 : TI := { u := .slice 5, sz := 1, bytes := 24, z := Value.slice none 0 0 }
theorem ok27 : TI.ok Tryd.prog 27 i27 := ⟨by kernel_rfl, Tryd.t27, by kernel_rfl, by kernel_rfl, by kernel_rfl, by kernel_rfl⟩
def i33 : TI := { u := .array 4 24, sz := 4, bytes := 32, z := Value.agg ([Value.int .u64 0, Value.int .u64 0, Value.int .u64 0, Value.int .u64 0]).toArray }
theorem ok33 : TI.ok Tryd.prog 33 i33 := ⟨by kernel_rfl, Tryd.t33, by kernel_rfl, by kernel_rfl, by kernel_rfl, by kernel_rfl⟩
def i34 : TI := { u := .array 4 24, sz := 4, bytes := 32, z := Value.agg ([Value.int .u64 0, Value.int .u64 0, Value.int .u64 0, Value.int .u64 0]).toArray }
theorem ok34 : TI.ok Tryd.prog 34 i34 := ⟨by kernel_rfl, Tryd.t34, by kernel_rfl, by kernel_rfl, by kernel_rfl, by kernel_rfl⟩
def i35 : TI := { u := .struct #[{ name := "X", type := 34, offset := 0, embedded := false, tag := "", pkgPath := "", byteOffset := 0 }, { name := "Y", type := 34, offset := 4, embedded := false, tag := "", pkgPath := "", byteOffset := 32 }, { name := "Identity", type := 4, offset := 8, embedded := false, tag := "", pkgPath := "", byteOffset := 64 }], sz := 9, bytes := 72, z := Value.agg ([Value.int .u64 0, Value.int .u64 0, Value.int .u64 0, Value.int .u64 0, Value.int .u64 0, Value.int .u64 0, Value.int .u64 0, Value.int .u64 0, Value.bool false]).toArray }
theorem ok35 : TI.ok Tryd.prog 35 i35 := ⟨by kernel_rfl, Tryd.t35, by kernel_rfl, by kernel_rfl, by kernel_rfl, by kernel_rfl⟩
def i36 : TI := { u := .struct #[{ name := "X", type := 34, offset := 0, embedded := false, tag := "", pkgPath := "", byteOffset := 0 }, { name := "Y", type := 34, offset := 4, embedded := false, tag := "", pkgPath := "", byteOffset := 32 }, { name := "Identity", type := 4, offset := 8, embedded := false, tag := "", pkgPath := "", byteOffset := 64 }], sz := 9, bytes := 72, z := Value.agg ([Value.int .u64 0, Value.int .u64 0, Value.int .u64 0, Value.int .u64 0, Value.int .u64 0, Value.int .u64 0, Value.int .u64 0, Value.int .u64 0, Value.bool false]).toArray }
theorem ok36 : TI.ok Tryd.prog 36 i36 := ⟨by kernel_rfl, Tryd.t36, by kernel_rfl, by kernel_rfl, by kernel_rfl, by kernel_rfl⟩
def i37 : TI := { u := .int .i64, sz := 1, bytes := 8, z := Value.int .i64 0 }
theorem ok37 : TI.ok Tryd.prog 37 i37 := ⟨by kernel_rfl, Tryd.t37, by kernel_rfl, by kernel_rfl, by kernel_rfl, by kernel_rfl⟩
def i44 : TI := { u := .slice 23, sz := 1, bytes := 24, z := Value.slice none 0 0 }
theorem ok44 : TI.ok Tryd.prog 44 i44 := ⟨by kernel_rfl, Tryd.t44, by kernel_rfl, by kernel_rfl, by kernel_rfl, by kernel_rfl⟩
def i51 : TI := { u := .slice 44, sz := 1, bytes := 24, z := Value.slice none 0 0 }
theorem ok51 : TI.ok Tryd.prog 51 i51 := ⟨by kernel_rfl, Tryd.t51, by kernel_rfl, by kernel_rfl, by kernel_rfl, by kernel_rfl⟩
def i56 : TI := { u := .slice 58, sz := 1, bytes := 24, z := Value.slice none 0 0 }
theorem ok56 : TI.ok Tryd.prog 56 i56 := ⟨by kernel_rfl, Tryd.t56, by kernel_rfl, by kernel_rfl, by kernel_rfl, by kernel_rfl⟩
def i57 : TI := { u := .struct #[{ name := "List", type := 4, offset := 0, embedded := false, tag := "", pkgPath := "", byteOffset := 0 }, { name := "Data", type := 27, offset := 1, embedded := false, tag := "", pkgPath := "", byteOffset := 8 }, { name := "Items", type := 56, offset := 2, embedded := false, tag := "", pkgPath := "", byteOffset := 32 }], sz := 3, bytes := 56, z := Value.agg ([Value.bool false, Value.slice none 0 0, Value.slice none 0 0]).toArray }
theorem ok57 : TI.ok Tryd.prog 57 i57 := ⟨by kernel_rfl, Tryd.t57, by kernel_rfl, by kernel_rfl, by kernel_rfl, by kernel_rfl⟩
def i58 : TI := { u := .struct #[{ name := "List", type := 4, offset := 0, embedded := false, tag := "", pkgPath := "", byteOffset := 0 }, { name := "Data", type := 27, offset := 1, embedded := false, tag := "", pkgPath := "", byteOffset := 8 }, { name := "Items", type := 56, offset := 2, embedded := false, tag := "", pkgPath := "", byteOffset := 32 }], sz := 3, bytes := 56, z := Value.agg ([Value.bool false, Value.slice none 0 0, Value.slice none 0 0]).toArray }
theorem ok58 : TI.ok Tryd.prog 58 i58 := ⟨by kernel_rfl, Tryd.t58, by kernel_rfl, by kernel_rfl, by kernel_rfl, by kernel_rfl⟩
def i74 : TI := { u := .slice 27, sz := 1, bytes := 24, z := Value.slice none 0 0 }
theorem ok74 : TI.ok Tryd.prog 74 i74 := ⟨by kernel_rfl, Tryd.t74, by kernel_rfl, by kernel_rfl, by kernel_rfl, by kernel_rfl⟩
def i77 : TI := { u := .struct #[], sz := 0, bytes := 0, z := Value.agg ([]).toArray }
theorem ok77 : TI.ok Tryd.prog 77 i77 := ⟨by kernel_rfl, Tryd.t77, by kernel_rfl, by kernel_rfl, by kernel_rfl, by kernel_rfl⟩
def i78 : TI := { u := .struct #[], sz := 0, bytes := 0, z := Value.agg ([]).toArray }
theorem ok78 : TI.ok Tryd.prog 78 i78 := ⟨by kernel_rfl, Tryd.t78, by kernel_rfl, by kernel_rfl, by kernel_rfl, by kernel_rfl⟩
def i79 : TI := { u := .struct #[], sz := 0, bytes := 0, z := Value.agg ([]).toArray }
theorem ok79 : TI.ok Tryd.prog 79 i79 := ⟨by kernel_rfl, Tryd.t79, by kernel_rfl, by kernel_rfl, by kernel_rfl, by kernel_rfl⟩
def i80 : TI := { u := .struct #[], sz := 0, bytes := 0, z := Value.agg ([]).toArray }
theorem ok80 : TI.ok Tryd.prog 80 i80 := ⟨by kernel_rfl, Tryd.t80, by kernel_rfl, by kernel_rfl, by kernel_rfl, by kernel_rfl⟩
def i81 : TI := { u := .struct #[{ name := "_", type := 79, offset := 0, embedded := false, tag := "", pkgPath := "sync/atomic", byteOffset := 0 }, { name := "_", type := 80, offset := 0, embedded := false, tag := "", pkgPath := "sync/atomic", byteOffset := 0 }, { name := "v", type := 24, offset := 0, embedded := false, tag := "", pkgPath := "sync/atomic", byteOffset := 0 }], sz := 1, bytes := 8, z := Value.agg ([Value.int .u64 0]).toArray }
theorem ok81 : TI.ok Tryd.prog 81 i81 := ⟨by kernel_rfl, Tryd.t81, by kernel_rfl, by kernel_rfl, by kernel_rfl, by kernel_rfl⟩
def i82 : TI := { u := .struct #[{ name := "_", type := 79, offset := 0, embedded := false, tag := "", pkgPath := "sync/atomic", byteOffset := 0 }, { name := "_", type := 80, offset := 0, embedded := false, tag := "", pkgPath := "sync/atomic", byteOffset := 0 }, { name := "v", type := 24, offset := 0, embedded := false, tag := "", pkgPath := "sync/atomic", byteOffset := 0 }], sz := 1, bytes := 8, z := Value.agg ([Value.int .u64 0]).toArray }
theorem ok82 : TI.ok Tryd.prog 82 i82 := ⟨by kernel_rfl, Tryd.t82, by kernel_rfl, by kernel_rfl, by kernel_rfl, by kernel_rfl⟩
def i83 : TI := { u := .int .u32, sz := 1, bytes := 4, z := Value.int .u32 0 }
theorem ok83 : TI.ok Tryd.prog 83 i83 := ⟨by kernel_rfl, Tryd.t83, by kernel_rfl, by kernel_rfl, by kernel_rfl, by kernel_rfl⟩
def i84 : TI := { u := .struct #[{ name := "noCopy", type := 78, offset := 0, embedded := false, tag := "", pkgPath := "sync", byteOffset := 0 }, { name := "state", type := 82, offset := 0, embedded := false, tag := "", pkgPath := "sync", byteOffset := 0 }, { name := "sema", type := 83, offset := 1, embedded := false, tag := "", pkgPath := "sync", byteOffset := 8 }], sz := 2, bytes := 16, z := Value.agg ([Value.int .u64 0, Value.int .u32 0]).toArray }
theorem ok84 : TI.ok Tryd.prog 84 i84 := ⟨by kernel_rfl, Tryd.t84, by kernel_rfl, by kernel_rfl, by kernel_rfl, by kernel_rfl⟩
def i85 : TI := { u := .struct #[{ name := "noCopy", type := 78, offset := 0, embedded := false, tag := "", pkgPath := "sync", byteOffset := 0 }, { name := "state", type := 82, offset := 0, embedded := false, tag := "", pkgPath := "sync", byteOffset := 0 }, { name := "sema", type := 83, offset := 1, embedded := false, tag := "", pkgPath := "sync", byteOffset := 8 }], sz := 2, bytes := 16, z := Value.agg ([Value.int .u64 0, Value.int .u32 0]).toArray }
theorem ok85 : TI.ok Tryd.prog 85 i85 := ⟨by kernel_rfl, Tryd.t85, by kernel_rfl, by kernel_rfl, by kernel_rfl, by kernel_rfl⟩
def i92 : TI := { u := .struct #[{ name := "x", type := 34, offset := 0, embedded := false, tag := "", pkgPath := "waybill/curve", byteOffset := 0 }, { name := "y", type := 34, offset := 4, embedded := false, tag := "", pkgPath := "waybill/curve", byteOffset := 32 }, { name := "z", type := 34, offset := 8, embedded := false, tag := "", pkgPath := "waybill/curve", byteOffset := 64 }], sz := 12, bytes := 96, z := Value.agg (List.replicate 12 (Value.int .u64 0)).toArray }
theorem ok92 : TI.ok Tryd.prog 92 i92 := ⟨by kernel_rfl, Tryd.t92, by kernel_rfl, by kernel_rfl, by kernel_rfl, by kernel_rfl⟩
def i93 : TI := { u := .struct #[{ name := "x", type := 34, offset := 0, embedded := false, tag := "", pkgPath := "waybill/curve", byteOffset := 0 }, { name := "y", type := 34, offset := 4, embedded := false, tag := "", pkgPath := "waybill/curve", byteOffset := 32 }, { name := "z", type := 34, offset := 8, embedded := false, tag := "", pkgPath := "waybill/curve", byteOffset := 64 }], sz := 12, bytes := 96, z := Value.agg (List.replicate 12 (Value.int .u64 0)).toArray }
theorem ok93 : TI.ok Tryd.prog 93 i93 := ⟨by kernel_rfl, Tryd.t93, by kernel_rfl, by kernel_rfl, by kernel_rfl, by kernel_rfl⟩
def i106 : TI := { u := .int .u64, sz := 1, bytes := 8, z := Value.int .u64 0 }
theorem ok106 : TI.ok Tryd.prog 106 i106 := ⟨by kernel_rfl, Tryd.t106, by kernel_rfl, by kernel_rfl, by kernel_rfl, by kernel_rfl⟩
def i107 : TI := { u := .pointer 85, sz := 1, bytes := 8, z := Value.pointer none }
theorem ok107 : TI.ok Tryd.prog 107 i107 := ⟨by kernel_rfl, Tryd.t107, by kernel_rfl, by kernel_rfl, by kernel_rfl, by kernel_rfl⟩
def i109 : TI := { u := .unsafePointer, sz := 1, bytes := 8, z := Value.pointer none }
theorem ok109 : TI.ok Tryd.prog 109 i109 := ⟨by kernel_rfl, Tryd.t109, by kernel_rfl, by kernel_rfl, by kernel_rfl, by kernel_rfl⟩
def i111 : TI := { u := .int .i64, sz := 1, bytes := 8, z := Value.int .i64 0 }
theorem ok111 : TI.ok Tryd.prog 111 i111 := ⟨by kernel_rfl, Tryd.t111, by kernel_rfl, by kernel_rfl, by kernel_rfl, by kernel_rfl⟩
def i115 : TI := { u := .pointer 83, sz := 1, bytes := 8, z := Value.pointer none }
theorem ok115 : TI.ok Tryd.prog 115 i115 := ⟨by kernel_rfl, Tryd.t115, by kernel_rfl, by kernel_rfl, by kernel_rfl, by kernel_rfl⟩
def i127 : TI := { u := .array 25 24, sz := 25, bytes := 200, z := Value.agg (List.replicate 25 (Value.int .u64 0)).toArray }
theorem ok127 : TI.ok Tryd.prog 127 i127 := ⟨by kernel_rfl, Tryd.t127, by kernel_rfl, by kernel_rfl, by kernel_rfl, by kernel_rfl⟩
def i128 : TI := { u := .array 136 5, sz := 136, bytes := 136, z := Value.agg (List.replicate 136 (Value.int .u8 0)).toArray }
theorem ok128 : TI.ok Tryd.prog 128 i128 := ⟨by kernel_rfl, Tryd.t128, by kernel_rfl, by kernel_rfl, by kernel_rfl, by kernel_rfl⟩
def i129 : TI := { u := .struct #[{ name := "kind", type := 3, offset := 0, embedded := false, tag := "", pkgPath := "waybill/keccak", byteOffset := 0 }, { name := "lanes", type := 127, offset := 1, embedded := false, tag := "", pkgPath := "waybill/keccak", byteOffset := 8 }, { name := "part", type := 128, offset := 26, embedded := false, tag := "", pkgPath := "waybill/keccak", byteOffset := 208 }, { name := "held", type := 3, offset := 162, embedded := false, tag := "", pkgPath := "waybill/keccak", byteOffset := 344 }, { name := "long", type := 3, offset := 163, embedded := false, tag := "", pkgPath := "waybill/keccak", byteOffset := 352 }], sz := 164, bytes := 360, z := Value.agg ([Value.int .i64 0] ++ List.replicate 25 (Value.int .u64 0) ++ List.replicate 136 (Value.int .u8 0) ++ List.replicate 2 (Value.int .i64 0)).toArray }
theorem ok129 : TI.ok Tryd.prog 129 i129 := ⟨by kernel_rfl, Tryd.t129, by kernel_rfl, by kernel_rfl, by kernel_rfl, by kernel_rfl⟩
def i130 : TI := { u := .struct #[{ name := "kind", type := 3, offset := 0, embedded := false, tag := "", pkgPath := "waybill/keccak", byteOffset := 0 }, { name := "lanes", type := 127, offset := 1, embedded := false, tag := "", pkgPath := "waybill/keccak", byteOffset := 8 }, { name := "part", type := 128, offset := 26, embedded := false, tag := "", pkgPath := "waybill/keccak", byteOffset := 208 }, { name := "held", type := 3, offset := 162, embedded := false, tag := "", pkgPath := "waybill/keccak", byteOffset := 344 }, { name := "long", type := 3, offset := 163, embedded := false, tag := "", pkgPath := "waybill/keccak", byteOffset := 352 }], sz := 164, bytes := 360, z := Value.agg ([Value.int .i64 0] ++ List.replicate 25 (Value.int .u64 0) ++ List.replicate 136 (Value.int .u8 0) ++ List.replicate 2 (Value.int .i64 0)).toArray }
theorem ok130 : TI.ok Tryd.prog 130 i130 := ⟨by kernel_rfl, Tryd.t130, by kernel_rfl, by kernel_rfl, by kernel_rfl, by kernel_rfl⟩
def i135 : TI := { u := .struct #[{ name := "m", type := 34, offset := 0, embedded := false, tag := "", pkgPath := "waybill/field", byteOffset := 0 }, { name := "rest", type := 34, offset := 4, embedded := false, tag := "", pkgPath := "waybill/field", byteOffset := 32 }], sz := 8, bytes := 64, z := Value.agg ([Value.int .u64 0, Value.int .u64 0, Value.int .u64 0, Value.int .u64 0, Value.int .u64 0, Value.int .u64 0, Value.int .u64 0, Value.int .u64 0]).toArray }
theorem ok135 : TI.ok Tryd.prog 135 i135 := ⟨by kernel_rfl, Tryd.t135, by kernel_rfl, by kernel_rfl, by kernel_rfl, by kernel_rfl⟩
def i136 : TI := { u := .struct #[{ name := "m", type := 34, offset := 0, embedded := false, tag := "", pkgPath := "waybill/field", byteOffset := 0 }, { name := "rest", type := 34, offset := 4, embedded := false, tag := "", pkgPath := "waybill/field", byteOffset := 32 }], sz := 8, bytes := 64, z := Value.agg ([Value.int .u64 0, Value.int .u64 0, Value.int .u64 0, Value.int .u64 0, Value.int .u64 0, Value.int .u64 0, Value.int .u64 0, Value.int .u64 0]).toArray }
theorem ok136 : TI.ok Tryd.prog 136 i136 := ⟨by kernel_rfl, Tryd.t136, by kernel_rfl, by kernel_rfl, by kernel_rfl, by kernel_rfl⟩
def i149 : TI := { u := .pointer 82, sz := 1, bytes := 8, z := Value.pointer none }
theorem ok149 : TI.ok Tryd.prog 149 i149 := ⟨by kernel_rfl, Tryd.t149, by kernel_rfl, by kernel_rfl, by kernel_rfl, by kernel_rfl⟩
def i151 : TI := { u := .pointer 24, sz := 1, bytes := 8, z := Value.pointer none }
theorem ok151 : TI.ok Tryd.prog 151 i151 := ⟨by kernel_rfl, Tryd.t151, by kernel_rfl, by kernel_rfl, by kernel_rfl, by kernel_rfl⟩
def i156 : TI := { u := .pointer 130, sz := 1, bytes := 8, z := Value.pointer none }
theorem ok156 : TI.ok Tryd.prog 156 i156 := ⟨by kernel_rfl, Tryd.t156, by kernel_rfl, by kernel_rfl, by kernel_rfl, by kernel_rfl⟩
def i157 : TI := { u := .array 2 5, sz := 2, bytes := 2, z := Value.agg ([Value.int .u8 0, Value.int .u8 0]).toArray }
theorem ok157 : TI.ok Tryd.prog 157 i157 := ⟨by kernel_rfl, Tryd.t157, by kernel_rfl, by kernel_rfl, by kernel_rfl, by kernel_rfl⟩
def i158 : TI := { u := .array 8 24, sz := 8, bytes := 64, z := Value.agg ([Value.int .u64 0, Value.int .u64 0, Value.int .u64 0, Value.int .u64 0, Value.int .u64 0, Value.int .u64 0, Value.int .u64 0, Value.int .u64 0]).toArray }
theorem ok158 : TI.ok Tryd.prog 158 i158 := ⟨by kernel_rfl, Tryd.t158, by kernel_rfl, by kernel_rfl, by kernel_rfl, by kernel_rfl⟩
def i159 : TI := { u := .array 16 93, sz := 192, bytes := 1536, z := Value.agg (List.replicate 192 (Value.int .u64 0)).toArray }
theorem ok159 : TI.ok Tryd.prog 159 i159 := ⟨by kernel_rfl, Tryd.t159, by kernel_rfl, by kernel_rfl, by kernel_rfl, by kernel_rfl⟩
def i165 : TI := { u := .array 2 136, sz := 16, bytes := 128, z := Value.agg (List.replicate 16 (Value.int .u64 0)).toArray }
theorem ok165 : TI.ok Tryd.prog 165 i165 := ⟨by kernel_rfl, Tryd.t165, by kernel_rfl, by kernel_rfl, by kernel_rfl, by kernel_rfl⟩
def i168 : TI := { u := .array 24 24, sz := 24, bytes := 192, z := Value.agg (List.replicate 24 (Value.int .u64 0)).toArray }
theorem ok168 : TI.ok Tryd.prog 168 i168 := ⟨by kernel_rfl, Tryd.t168, by kernel_rfl, by kernel_rfl, by kernel_rfl, by kernel_rfl⟩
def i172 : TI := { u := .array 5 24, sz := 5, bytes := 40, z := Value.agg ([Value.int .u64 0, Value.int .u64 0, Value.int .u64 0, Value.int .u64 0, Value.int .u64 0]).toArray }
theorem ok172 : TI.ok Tryd.prog 172 i172 := ⟨by kernel_rfl, Tryd.t172, by kernel_rfl, by kernel_rfl, by kernel_rfl, by kernel_rfl⟩
def i175 : TI := { u := .array 25 3, sz := 25, bytes := 200, z := Value.agg (List.replicate 25 (Value.int .i64 0)).toArray }
theorem ok175 : TI.ok Tryd.prog 175 i175 := ⟨by kernel_rfl, Tryd.t175, by kernel_rfl, by kernel_rfl, by kernel_rfl, by kernel_rfl⟩
def i182 : TI := { u := .array 16 24, sz := 16, bytes := 128, z := Value.agg (List.replicate 16 (Value.int .u64 0)).toArray }
theorem ok182 : TI.ok Tryd.prog 182 i182 := ⟨by kernel_rfl, Tryd.t182, by kernel_rfl, by kernel_rfl, by kernel_rfl, by kernel_rfl⟩
def i185 : TI := { u := .slice 24, sz := 1, bytes := 24, z := Value.slice none 0 0 }
theorem ok185 : TI.ok Tryd.prog 185 i185 := ⟨by kernel_rfl, Tryd.t185, by kernel_rfl, by kernel_rfl, by kernel_rfl, by kernel_rfl⟩
def i187 : TI := { u := .struct #[{ name := "_interface", type := 17, offset := 0, embedded := false, tag := "", pkgPath := "runtime", byteOffset := 0 }, { name := "concrete", type := 17, offset := 1, embedded := false, tag := "", pkgPath := "runtime", byteOffset := 8 }, { name := "asserted", type := 17, offset := 2, embedded := false, tag := "", pkgPath := "runtime", byteOffset := 16 }, { name := "missingMethod", type := 9, offset := 3, embedded := false, tag := "", pkgPath := "runtime", byteOffset := 24 }], sz := 4, bytes := 40, z := Value.agg ([Value.pointer none, Value.pointer none, Value.pointer none, Value.string ByteArray.empty]).toArray }
theorem ok187 : TI.ok Tryd.prog 187 i187 := ⟨by kernel_rfl, Tryd.t187, by kernel_rfl, by kernel_rfl, by kernel_rfl, by kernel_rfl⟩
def i188 : TI := { u := .struct #[{ name := "_interface", type := 17, offset := 0, embedded := false, tag := "", pkgPath := "runtime", byteOffset := 0 }, { name := "concrete", type := 17, offset := 1, embedded := false, tag := "", pkgPath := "runtime", byteOffset := 8 }, { name := "asserted", type := 17, offset := 2, embedded := false, tag := "", pkgPath := "runtime", byteOffset := 16 }, { name := "missingMethod", type := 9, offset := 3, embedded := false, tag := "", pkgPath := "runtime", byteOffset := 24 }], sz := 4, bytes := 40, z := Value.agg ([Value.pointer none, Value.pointer none, Value.pointer none, Value.string ByteArray.empty]).toArray }
theorem ok188 : TI.ok Tryd.prog 188 i188 := ⟨by kernel_rfl, Tryd.t188, by kernel_rfl, by kernel_rfl, by kernel_rfl, by kernel_rfl⟩
def i189 : TI := { u := .array 0 16, sz := 0, bytes := 0, z := Value.agg ([]).toArray }
theorem ok189 : TI.ok Tryd.prog 189 i189 := ⟨by kernel_rfl, Tryd.t189, by kernel_rfl, by kernel_rfl, by kernel_rfl, by kernel_rfl⟩
def i190 : TI := { u := .struct #[{ name := "_", type := 189, offset := 0, embedded := false, tag := "", pkgPath := "runtime", byteOffset := 0 }], sz := 0, bytes := 0, z := Value.agg ([]).toArray }
theorem ok190 : TI.ok Tryd.prog 190 i190 := ⟨by kernel_rfl, Tryd.t190, by kernel_rfl, by kernel_rfl, by kernel_rfl, by kernel_rfl⟩
def i191 : TI := { u := .struct #[{ name := "_", type := 189, offset := 0, embedded := false, tag := "", pkgPath := "runtime", byteOffset := 0 }], sz := 0, bytes := 0, z := Value.agg ([]).toArray }
theorem ok191 : TI.ok Tryd.prog 191 i191 := ⟨by kernel_rfl, Tryd.t191, by kernel_rfl, by kernel_rfl, by kernel_rfl, by kernel_rfl⟩
def i193 : TI := { u := .int .u8, sz := 1, bytes := 1, z := Value.int .u8 0 }
theorem ok193 : TI.ok Tryd.prog 193 i193 := ⟨by kernel_rfl, Tryd.t193, by kernel_rfl, by kernel_rfl, by kernel_rfl, by kernel_rfl⟩
def i194 : TI := { u := .int .u8, sz := 1, bytes := 1, z := Value.int .u8 0 }
theorem ok194 : TI.ok Tryd.prog 194 i194 := ⟨by kernel_rfl, Tryd.t194, by kernel_rfl, by kernel_rfl, by kernel_rfl, by kernel_rfl⟩
def i196 : TI := { u := .pointer 5, sz := 1, bytes := 8, z := Value.pointer none }
theorem ok196 : TI.ok Tryd.prog 196 i196 := ⟨by kernel_rfl, Tryd.t196, by kernel_rfl, by kernel_rfl, by kernel_rfl, by kernel_rfl⟩
def i197 : TI := { u := .int .i32, sz := 1, bytes := 4, z := Value.int .i32 0 }
theorem ok197 : TI.ok Tryd.prog 197 i197 := ⟨by kernel_rfl, Tryd.t197, by kernel_rfl, by kernel_rfl, by kernel_rfl, by kernel_rfl⟩
def i198 : TI := { u := .int .i32, sz := 1, bytes := 4, z := Value.int .i32 0 }
theorem ok198 : TI.ok Tryd.prog 198 i198 := ⟨by kernel_rfl, Tryd.t198, by kernel_rfl, by kernel_rfl, by kernel_rfl, by kernel_rfl⟩
def i199 : TI := { u := .struct #[{ name := "Size_", type := 12, offset := 0, embedded := false, tag := "", pkgPath := "", byteOffset := 0 }, { name := "PtrBytes", type := 12, offset := 1, embedded := false, tag := "", pkgPath := "", byteOffset := 8 }, { name := "Hash", type := 83, offset := 2, embedded := false, tag := "", pkgPath := "", byteOffset := 16 }, { name := "TFlag", type := 193, offset := 3, embedded := false, tag := "", pkgPath := "", byteOffset := 20 }, { name := "Align_", type := 5, offset := 4, embedded := false, tag := "", pkgPath := "", byteOffset := 21 }, { name := "FieldAlign_", type := 5, offset := 5, embedded := false, tag := "", pkgPath := "", byteOffset := 22 }, { name := "Kind_", type := 194, offset := 6, embedded := false, tag := "", pkgPath := "", byteOffset := 23 }, { name := "Equal", type := 195, offset := 7, embedded := false, tag := "", pkgPath := "", byteOffset := 24 }, { name := "GCData", type := 196, offset := 8, embedded := false, tag := "", pkgPath := "", byteOffset := 32 }, { name := "Str", type := 197, offset := 9, embedded := false, tag := "", pkgPath := "", byteOffset := 40 }, { name := "PtrToThis", type := 198, offset := 10, embedded := false, tag := "", pkgPath := "", byteOffset := 44 }], sz := 11, bytes := 48, z := Value.agg ([Value.int .u64 0, Value.int .u64 0, Value.int .u32 0, Value.int .u8 0, Value.int .u8 0, Value.int .u8 0, Value.int .u8 0, Value.nilFunc, Value.pointer none, Value.int .i32 0, Value.int .i32 0]).toArray }
theorem ok199 : TI.ok Tryd.prog 199 i199 := ⟨by kernel_rfl, Tryd.t199, by kernel_rfl, by kernel_rfl, by kernel_rfl, by kernel_rfl⟩
def i200 : TI := { u := .struct #[{ name := "Size_", type := 12, offset := 0, embedded := false, tag := "", pkgPath := "", byteOffset := 0 }, { name := "PtrBytes", type := 12, offset := 1, embedded := false, tag := "", pkgPath := "", byteOffset := 8 }, { name := "Hash", type := 83, offset := 2, embedded := false, tag := "", pkgPath := "", byteOffset := 16 }, { name := "TFlag", type := 193, offset := 3, embedded := false, tag := "", pkgPath := "", byteOffset := 20 }, { name := "Align_", type := 5, offset := 4, embedded := false, tag := "", pkgPath := "", byteOffset := 21 }, { name := "FieldAlign_", type := 5, offset := 5, embedded := false, tag := "", pkgPath := "", byteOffset := 22 }, { name := "Kind_", type := 194, offset := 6, embedded := false, tag := "", pkgPath := "", byteOffset := 23 }, { name := "Equal", type := 195, offset := 7, embedded := false, tag := "", pkgPath := "", byteOffset := 24 }, { name := "GCData", type := 196, offset := 8, embedded := false, tag := "", pkgPath := "", byteOffset := 32 }, { name := "Str", type := 197, offset := 9, embedded := false, tag := "", pkgPath := "", byteOffset := 40 }, { name := "PtrToThis", type := 198, offset := 10, embedded := false, tag := "", pkgPath := "", byteOffset := 44 }], sz := 11, bytes := 48, z := Value.agg ([Value.int .u64 0, Value.int .u64 0, Value.int .u32 0, Value.int .u8 0, Value.int .u8 0, Value.int .u8 0, Value.int .u8 0, Value.nilFunc, Value.pointer none, Value.int .i32 0, Value.int .i32 0]).toArray }
theorem ok200 : TI.ok Tryd.prog 200 i200 := ⟨by kernel_rfl, Tryd.t200, by kernel_rfl, by kernel_rfl, by kernel_rfl, by kernel_rfl⟩
instance types : Types Tryd.prog where
  tbl := [(2, i2), (3, i3), (4, i4), (5, i5), (6, i6), (7, i7), (8, i8), (9, i9), (10, i10), (11, i11), (12, i12), (13, i13), (14, i14), (15, i15), (16, i16), (17, i17), (18, i18), (19, i19), (21, i21), (22, i22), (23, i23), (24, i24), (25, i25), (26, i26), (27, i27), (33, i33), (34, i34), (35, i35), (36, i36), (37, i37), (44, i44), (51, i51), (56, i56), (57, i57), (58, i58), (74, i74), (77, i77), (78, i78), (79, i79), (80, i80), (81, i81), (82, i82), (83, i83), (84, i84), (85, i85), (92, i92), (93, i93), (106, i106), (107, i107), (109, i109), (111, i111), (115, i115), (127, i127), (128, i128), (129, i129), (130, i130), (135, i135), (136, i136), (149, i149), (151, i151), (156, i156), (157, i157), (158, i158), (159, i159), (165, i165), (168, i168), (172, i172), (175, i175), (182, i182), (185, i185), (187, i187), (188, i188), (189, i189), (190, i190), (191, i191), (193, i193), (194, i194), (196, i196), (197, i197), (198, i198), (199, i199), (200, i200)]
  ok := TI.lk_all _ (AllOk.mem ⟨ok2, ok3, ok4, ok5, ok6, ok7, ok8, ok9, ok10, ok11, ok12, ok13, ok14, ok15, ok16, ok17, ok18, ok19, ok21, ok22, ok23, ok24, ok25, ok26, ok27, ok33, ok34, ok35, ok36, ok37, ok44, ok51, ok56, ok57, ok58, ok74, ok77, ok78, ok79, ok80, ok81, ok82, ok83, ok84, ok85, ok92, ok93, ok106, ok107, ok109, ok111, ok115, ok127, ok128, ok129, ok130, ok135, ok136, ok149, ok151, ok156, ok157, ok158, ok159, ok165, ok168, ok172, ok175, ok182, ok185, ok187, ok188, ok189, ok190, ok191, ok193, ok194, ok196, ok197, ok198, ok199, ok200, trivial⟩)
instance noGuard : NoGuard Tryd.prog where
  ts := [7, 8, 13, 14, 18, 19, 22, 23, 25, 26, 33, 34, 35, 36, 57, 58, 77, 78, 79, 80, 81, 82, 84, 85, 92, 93, 127, 128, 129, 130, 135, 136, 157, 158, 159, 165, 168, 172, 175, 182, 187, 188, 189, 190, 191, 199, 200]
  ok := AllNG.mem ⟨Tryd.eqGuardType7, Tryd.eqGuardType8, Tryd.eqGuardType13, Tryd.eqGuardType14, Tryd.eqGuardType18, Tryd.eqGuardType19, Tryd.eqGuardType22, Tryd.eqGuardType23, Tryd.eqGuardType25, Tryd.eqGuardType26, Tryd.eqGuardType33, Tryd.eqGuardType34, Tryd.eqGuardType35, Tryd.eqGuardType36, Tryd.eqGuardType57, Tryd.eqGuardType58, Tryd.eqGuardType77, Tryd.eqGuardType78, Tryd.eqGuardType79, Tryd.eqGuardType80, Tryd.eqGuardType81, Tryd.eqGuardType82, Tryd.eqGuardType84, Tryd.eqGuardType85, Tryd.eqGuardType92, Tryd.eqGuardType93, Tryd.eqGuardType127, Tryd.eqGuardType128, Tryd.eqGuardType129, Tryd.eqGuardType130, Tryd.eqGuardType135, Tryd.eqGuardType136, Tryd.eqGuardType157, Tryd.eqGuardType158, Tryd.eqGuardType159, Tryd.eqGuardType165, Tryd.eqGuardType168, Tryd.eqGuardType172, Tryd.eqGuardType175, Tryd.eqGuardType182, Tryd.eqGuardType187, Tryd.eqGuardType188, Tryd.eqGuardType189, Tryd.eqGuardType190, Tryd.eqGuardType191, Tryd.eqGuardType199, Tryd.eqGuardType200, trivial⟩
theorem mixed : Tryd.prog.follows .mixedOrders = true := by kernel_rfl
end Go.Fw.Tryd
