/- Part of a proof: rules that its law uses. -/
import Derived.Test.YtogfjkomkpbjpaaDoorProg
import Derived.Test.YtogfjkomkpbjpaaDoorFwB
set_option maxRecDepth 100000
namespace Go.Fw.Tryd
open Go Go.Proofs
def i2 : TI := { u := .int .i64, sz := 1, bytes := 8, z := Value.int .i64 0 }
theorem ok2 : TI.ok Tryd.prog 2 i2 := ⟨by kernel_rfl, Tryd.t2, by kernel_rfl, by kernel_rfl, by kernel_rfl, by kernel_rfl⟩
def i3 : TI := { u := .int .i64, sz := 1, bytes := 8, z := Value.int .i64 0 }
theorem ok3 : TI.ok Tryd.prog 3 i3 := ⟨by kernel_rfl, Tryd.t3, by kernel_rfl, by kernel_rfl, by kernel_rfl, by kernel_rfl⟩
def i4 : TI := { u := .bool, sz := 1, bytes := 1, z := Value.bool false }
theorem ok4 : TI.ok Tryd.prog 4 i4 := ⟨by kernel_rfl, Tryd.t4, by kernel_rfl, by kernel_rfl, by kernel_rfl, by kernel_rfl⟩
def i5 : TI := { u := .int .u8, sz := 1, bytes := 1, z := Value.int .u8 0 }
theorem ok5 : TI.ok Tryd.prog 5 i5 := ⟨by kernel_rfl, Tryd.t5, by kernel_rfl, by kernel_rfl, by kernel_rfl, by kernel_rfl⟩
def i6 : TI := { u := .int .u8, sz := 1, bytes := 1, z := Value.int .u8 0 }
theorem ok6 : TI.ok Tryd.prog 6 i6 := ⟨by kernel_rfl, Tryd.t6, by kernel_rfl, by kernel_rfl, by kernel_rfl, by kernel_rfl⟩
def i7 : TI := { u := .struct #[{ name := "x", type := 2, offset := 0, embedded := false, tag := "", pkgPath := "runtime", byteOffset := 0 }, { name := "y", type := 3, offset := 1, embedded := false, tag := "", pkgPath := "runtime", byteOffset := 8 }, { name := "signed", type := 4, offset := 2, embedded := false, tag := "", pkgPath := "runtime", byteOffset := 16 }, { name := "code", type := 6, offset := 3, embedded := false, tag := "", pkgPath := "runtime", byteOffset := 17 }], sz := 4, bytes := 24, z := Value.agg ([Value.int .i64 0, Value.int .i64 0, Value.bool false, Value.int .u8 0]).toArray }
theorem ok7 : TI.ok Tryd.prog 7 i7 := ⟨by kernel_rfl, Tryd.t7, by kernel_rfl, by kernel_rfl, by kernel_rfl, by kernel_rfl⟩
def i8 : TI := { u := .struct #[{ name := "x", type := 2, offset := 0, embedded := false, tag := "", pkgPath := "runtime", byteOffset := 0 }, { name := "y", type := 3, offset := 1, embedded := false, tag := "", pkgPath := "runtime", byteOffset := 8 }, { name := "signed", type := 4, offset := 2, embedded := false, tag := "", pkgPath := "runtime", byteOffset := 16 }, { name := "code", type := 6, offset := 3, embedded := false, tag := "", pkgPath := "runtime", byteOffset := 17 }], sz := 4, bytes := 24, z := Value.agg ([Value.int .i64 0, Value.int .i64 0, Value.bool false, Value.int .u8 0]).toArray }
theorem ok8 : TI.ok Tryd.prog 8 i8 := ⟨by kernel_rfl, Tryd.t8, by kernel_rfl, by kernel_rfl, by kernel_rfl, by kernel_rfl⟩
def i9 : TI := { u := .string, sz := 1, bytes := 16, z := Value.string ByteArray.empty }
theorem ok9 : TI.ok Tryd.prog 9 i9 := ⟨by kernel_rfl, Tryd.t9, by kernel_rfl, by kernel_rfl, by kernel_rfl, by kernel_rfl⟩
def i10 : TI := { u := .string, sz := 1, bytes := 16, z := Value.string ByteArray.empty }
theorem ok10 : TI.ok Tryd.prog 10 i10 := ⟨by kernel_rfl, Tryd.t10, by kernel_rfl, by kernel_rfl, by kernel_rfl, by kernel_rfl⟩
def i11 : TI := { u := .string, sz := 1, bytes := 16, z := Value.string ByteArray.empty }
theorem ok11 : TI.ok Tryd.prog 11 i11 := ⟨by kernel_rfl, Tryd.t11, by kernel_rfl, by kernel_rfl, by kernel_rfl, by kernel_rfl⟩
def i12 : TI := { u := .int .u64, sz := 1, bytes := 8, z := Value.int .u64 0 }
theorem ok12 : TI.ok Tryd.prog 12 i12 := ⟨by kernel_rfl, Tryd.t12, by kernel_rfl, by kernel_rfl, by kernel_rfl, by kernel_rfl⟩
def i13 : TI := { u := .struct #[{ name := "msg", type := 9, offset := 0, embedded := false, tag := "", pkgPath := "runtime", byteOffset := 0 }, { name := "addr", type := 12, offset := 1, embedded := false, tag := "", pkgPath := "runtime", byteOffset := 16 }], sz := 2, bytes := 24, z := Value.agg ([Value.string ByteArray.empty, Value.int .u64 0]).toArray }
theorem ok13 : TI.ok Tryd.prog 13 i13 := ⟨by kernel_rfl, Tryd.t13, by kernel_rfl, by kernel_rfl, by kernel_rfl, by kernel_rfl⟩
def i14 : TI := { u := .struct #[{ name := "msg", type := 9, offset := 0, embedded := false, tag := "", pkgPath := "runtime", byteOffset := 0 }, { name := "addr", type := 12, offset := 1, embedded := false, tag := "", pkgPath := "runtime", byteOffset := 16 }], sz := 2, bytes := 24, z := Value.agg ([Value.string ByteArray.empty, Value.int .u64 0]).toArray }
theorem ok14 : TI.ok Tryd.prog 14 i14 := ⟨by kernel_rfl, Tryd.t14, by kernel_rfl, by kernel_rfl, by kernel_rfl, by kernel_rfl⟩
def i15 : TI := { u := .pointer 117, sz := 1, bytes := 8, z := Value.pointer none }
theorem ok15 : TI.ok Tryd.prog 15 i15 := ⟨by kernel_rfl, Tryd.t15, by kernel_rfl, by kernel_rfl, by kernel_rfl, by kernel_rfl⟩
def i16 : TI := { u := .pointer 120, sz := 1, bytes := 8, z := Value.pointer none }
theorem ok16 : TI.ok Tryd.prog 16 i16 := ⟨by kernel_rfl, Tryd.t16, by kernel_rfl, by kernel_rfl, by kernel_rfl, by kernel_rfl⟩
def i17 : TI := { u := .pointer 128, sz := 1, bytes := 8, z := Value.pointer none }
theorem ok17 : TI.ok Tryd.prog 17 i17 := ⟨by kernel_rfl, Tryd.t17, by kernel_rfl, by kernel_rfl, by kernel_rfl, by kernel_rfl⟩
def i18 : TI := { u := .struct #[{ name := "typ", type := 17, offset := 0, embedded := false, tag := "", pkgPath := "internal/runtime/maps", byteOffset := 0 }], sz := 1, bytes := 8, z := Value.agg ([Value.pointer none]).toArray }
theorem ok18 : TI.ok Tryd.prog 18 i18 := ⟨by kernel_rfl, Tryd.t18, by kernel_rfl, by kernel_rfl, by kernel_rfl, by kernel_rfl⟩
def i19 : TI := { u := .struct #[{ name := "typ", type := 17, offset := 0, embedded := false, tag := "", pkgPath := "internal/runtime/maps", byteOffset := 0 }], sz := 1, bytes := 8, z := Value.agg ([Value.pointer none]).toArray }
theorem ok19 : TI.ok Tryd.prog 19 i19 := ⟨by kernel_rfl, Tryd.t19, by kernel_rfl, by kernel_rfl, by kernel_rfl, by kernel_rfl⟩
def i21 : TI := { u := .int .i32, sz := 1, bytes := 4, z := Value.int .i32 0 }
theorem ok21 : TI.ok Tryd.prog 21 i21 := ⟨by kernel_rfl, Tryd.t21, by kernel_rfl, by kernel_rfl, by kernel_rfl, by kernel_rfl⟩
def i22 : TI := { u := .int .u64, sz := 1, bytes := 8, z := Value.int .u64 0 }
theorem ok22 : TI.ok Tryd.prog 22 i22 := ⟨by kernel_rfl, Tryd.t22, by kernel_rfl, by kernel_rfl, by kernel_rfl, by kernel_rfl⟩
def i23 : TI := { u := .array 25 22, sz := 25, bytes := 200, z := Value.agg (List.replicate 25 (Value.int .u64 0)).toArray }
theorem ok23 : TI.ok Tryd.prog 23 i23 := ⟨by kernel_rfl, Tryd.t23, by kernel_rfl, by kernel_rfl, by kernel_rfl, by kernel_rfl⟩
def i26 : TI := { u := .slice 33, sz := 1, bytes := 24, z := Value.slice none 0 0 }
theorem ok26 : TI.ok Tryd.prog 26 i26 := ⟨by kernel_rfl, Tryd.t26, by kernel_rfl, by kernel_rfl, by kernel_rfl, by kernel_rfl⟩
def i28 : TI := { u := .array 32 5, sz := 32, bytes := 32, z := Value.agg (List.replicate 32 (Value.int .u8 0)).toArray }
theorem ok28 : TI.ok Tryd.prog 28 i28 := ⟨by kernel_rfl, Tryd.t28, by kernel_rfl, by kernel_rfl, by kernel_rfl, by kernel_rfl⟩
def i29 : TI := { u := .array 32 5, sz := 32, bytes := 32, z := Value.agg (List.replicate 32 (Value.int .u8 0)).toArray }
theorem ok29 : TI.ok Tryd.prog 29 i29 := ⟨by kernel_rfl, Tryd.t29, by kernel_rfl, by kernel_rfl, by kernel_rfl, by kernel_rfl⟩
def i33 : TI := { u := .slice 5, sz := 1, bytes := 24, z := Value.slice none 0 0 }
theorem ok33 : TI.ok Tryd.prog 33 i33 := ⟨by kernel_rfl, Tryd.t33, by kernel_rfl, by kernel_rfl, by kernel_rfl, by kernel_rfl⟩
def i35 : TI := { u := .slice 3, sz := 1, bytes := 24, z := Value.slice none 0 0 }
theorem ok35 : TI.ok Tryd.prog 35 i35 := ⟨by kernel_rfl, Tryd.t35, by kernel_rfl, by kernel_rfl, by kernel_rfl, by kernel_rfl⟩
def i37 : TI := { u := .pointer 73, sz := 1, bytes := 8, z := Value.pointer none }
theorem ok37 : TI.ok Tryd.prog 37 i37 := ⟨by kernel_rfl, Tryd.t37, by kernel_rfl, by kernel_rfl, by kernel_rfl, by kernel_rfl⟩
def i38 : TI := { u := .int .i64, sz := 1, bytes := 8, z := Value.int .i64 0 }
theorem ok38 : TI.ok Tryd.prog 38 i38 := ⟨by kernel_rfl, Tryd.t38, by kernel_rfl, by kernel_rfl, by kernel_rfl, by kernel_rfl⟩
def i46 : TI := { u := .slice 54, sz := 1, bytes := 24, z := Value.slice none 0 0 }
theorem ok46 : TI.ok Tryd.prog 46 i46 := ⟨by kernel_rfl, Tryd.t46, by kernel_rfl, by kernel_rfl, by kernel_rfl, by kernel_rfl⟩
def i47 : TI := { u := .pointer 79, sz := 1, bytes := 8, z := Value.pointer none }
theorem ok47 : TI.ok Tryd.prog 47 i47 := ⟨by kernel_rfl, Tryd.t47, by kernel_rfl, by kernel_rfl, by kernel_rfl, by kernel_rfl⟩
def i48 : TI := { u := .struct #[{ name := "P", type := 37, offset := 0, embedded := false, tag := "", pkgPath := "", byteOffset := 0 }, { name := "D", type := 47, offset := 1, embedded := false, tag := "", pkgPath := "", byteOffset := 8 }], sz := 2, bytes := 16, z := Value.agg ([Value.pointer none, Value.pointer none]).toArray }
theorem ok48 : TI.ok Tryd.prog 48 i48 := ⟨by kernel_rfl, Tryd.t48, by kernel_rfl, by kernel_rfl, by kernel_rfl, by kernel_rfl⟩
def i49 : TI := { u := .struct #[{ name := "P", type := 37, offset := 0, embedded := false, tag := "", pkgPath := "", byteOffset := 0 }, { name := "D", type := 47, offset := 1, embedded := false, tag := "", pkgPath := "", byteOffset := 8 }], sz := 2, bytes := 16, z := Value.agg ([Value.pointer none, Value.pointer none]).toArray }
theorem ok49 : TI.ok Tryd.prog 49 i49 := ⟨by kernel_rfl, Tryd.t49, by kernel_rfl, by kernel_rfl, by kernel_rfl, by kernel_rfl⟩
def i50 : TI := { u := .array 3 49, sz := 6, bytes := 48, z := Value.agg ([Value.pointer none, Value.pointer none, Value.pointer none, Value.pointer none, Value.pointer none, Value.pointer none]).toArray }
theorem ok50 : TI.ok Tryd.prog 50 i50 := ⟨by kernel_rfl, Tryd.t50, by kernel_rfl, by kernel_rfl, by kernel_rfl, by kernel_rfl⟩
def i52 : TI := { u := .pointer 50, sz := 1, bytes := 8, z := Value.pointer none }
theorem ok52 : TI.ok Tryd.prog 52 i52 := ⟨by kernel_rfl, Tryd.t52, by kernel_rfl, by kernel_rfl, by kernel_rfl, by kernel_rfl⟩
def i53 : TI := { u := .struct #[{ name := "Kind", type := 3, offset := 0, embedded := false, tag := "", pkgPath := "", byteOffset := 0 }, { name := "On", type := 3, offset := 1, embedded := false, tag := "", pkgPath := "", byteOffset := 8 }, { name := "Other", type := 3, offset := 2, embedded := false, tag := "", pkgPath := "", byteOffset := 16 }, { name := "Data", type := 33, offset := 3, embedded := false, tag := "", pkgPath := "", byteOffset := 24 }], sz := 4, bytes := 48, z := Value.agg ([Value.int .i64 0, Value.int .i64 0, Value.int .i64 0, Value.slice none 0 0]).toArray }
theorem ok53 : TI.ok Tryd.prog 53 i53 := ⟨by kernel_rfl, Tryd.t53, by kernel_rfl, by kernel_rfl, by kernel_rfl, by kernel_rfl⟩
def i54 : TI := { u := .struct #[{ name := "Kind", type := 3, offset := 0, embedded := false, tag := "", pkgPath := "", byteOffset := 0 }, { name := "On", type := 3, offset := 1, embedded := false, tag := "", pkgPath := "", byteOffset := 8 }, { name := "Other", type := 3, offset := 2, embedded := false, tag := "", pkgPath := "", byteOffset := 16 }, { name := "Data", type := 33, offset := 3, embedded := false, tag := "", pkgPath := "", byteOffset := 24 }], sz := 4, bytes := 48, z := Value.agg ([Value.int .i64 0, Value.int .i64 0, Value.int .i64 0, Value.slice none 0 0]).toArray }
theorem ok54 : TI.ok Tryd.prog 54 i54 := ⟨by kernel_rfl, Tryd.t54, by kernel_rfl, by kernel_rfl, by kernel_rfl, by kernel_rfl⟩
def i56 : TI := { u := .slice 29, sz := 1, bytes := 24, z := Value.slice none 0 0 }
theorem ok56 : TI.ok Tryd.prog 56 i56 := ⟨by kernel_rfl, Tryd.t56, by kernel_rfl, by kernel_rfl, by kernel_rfl, by kernel_rfl⟩
def i60 : TI := { u := .array 25 3, sz := 25, bytes := 200, z := Value.agg (List.replicate 25 (Value.int .i64 0)).toArray }
theorem ok60 : TI.ok Tryd.prog 60 i60 := ⟨by kernel_rfl, Tryd.t60, by kernel_rfl, by kernel_rfl, by kernel_rfl, by kernel_rfl⟩
def i63 : TI := { u := .array 24 22, sz := 24, bytes := 192, z := Value.agg (List.replicate 24 (Value.int .u64 0)).toArray }
theorem ok63 : TI.ok Tryd.prog 63 i63 := ⟨by kernel_rfl, Tryd.t63, by kernel_rfl, by kernel_rfl, by kernel_rfl, by kernel_rfl⟩
def i65 : TI := { u := .array 5 22, sz := 5, bytes := 40, z := Value.agg ([Value.int .u64 0, Value.int .u64 0, Value.int .u64 0, Value.int .u64 0, Value.int .u64 0]).toArray }
theorem ok65 : TI.ok Tryd.prog 65 i65 := ⟨by kernel_rfl, Tryd.t65, by kernel_rfl, by kernel_rfl, by kernel_rfl, by kernel_rfl⟩
def i71 : TI := { u := .array 136 5, sz := 136, bytes := 136, z := Value.agg (List.replicate 136 (Value.int .u8 0)).toArray }
theorem ok71 : TI.ok Tryd.prog 71 i71 := ⟨by kernel_rfl, Tryd.t71, by kernel_rfl, by kernel_rfl, by kernel_rfl, by kernel_rfl⟩
def i72 : TI := { u := .struct #[{ name := "kind", type := 3, offset := 0, embedded := false, tag := "", pkgPath := "waybill/keccak", byteOffset := 0 }, { name := "lanes", type := 23, offset := 1, embedded := false, tag := "", pkgPath := "waybill/keccak", byteOffset := 8 }, { name := "part", type := 71, offset := 26, embedded := false, tag := "", pkgPath := "waybill/keccak", byteOffset := 208 }, { name := "held", type := 3, offset := 162, embedded := false, tag := "", pkgPath := "waybill/keccak", byteOffset := 344 }, { name := "long", type := 3, offset := 163, embedded := false, tag := "", pkgPath := "waybill/keccak", byteOffset := 352 }], sz := 164, bytes := 360, z := Value.agg ([Value.int .i64 0] ++ List.replicate 25 (Value.int .u64 0) ++ List.replicate 136 (Value.int .u8 0) ++ List.replicate 2 (Value.int .i64 0)).toArray }
theorem ok72 : TI.ok Tryd.prog 72 i72 := ⟨by kernel_rfl, Tryd.t72, by kernel_rfl, by kernel_rfl, by kernel_rfl, by kernel_rfl⟩
def i73 : TI := { u := .struct #[{ name := "kind", type := 3, offset := 0, embedded := false, tag := "", pkgPath := "waybill/keccak", byteOffset := 0 }, { name := "lanes", type := 23, offset := 1, embedded := false, tag := "", pkgPath := "waybill/keccak", byteOffset := 8 }, { name := "part", type := 71, offset := 26, embedded := false, tag := "", pkgPath := "waybill/keccak", byteOffset := 208 }, { name := "held", type := 3, offset := 162, embedded := false, tag := "", pkgPath := "waybill/keccak", byteOffset := 344 }, { name := "long", type := 3, offset := 163, embedded := false, tag := "", pkgPath := "waybill/keccak", byteOffset := 352 }], sz := 164, bytes := 360, z := Value.agg ([Value.int .i64 0] ++ List.replicate 25 (Value.int .u64 0) ++ List.replicate 136 (Value.int .u8 0) ++ List.replicate 2 (Value.int .i64 0)).toArray }
theorem ok73 : TI.ok Tryd.prog 73 i73 := ⟨by kernel_rfl, Tryd.t73, by kernel_rfl, by kernel_rfl, by kernel_rfl, by kernel_rfl⟩
def i74 : TI := { u := .array 2 5, sz := 2, bytes := 2, z := Value.agg ([Value.int .u8 0, Value.int .u8 0]).toArray }
theorem ok74 : TI.ok Tryd.prog 74 i74 := ⟨by kernel_rfl, Tryd.t74, by kernel_rfl, by kernel_rfl, by kernel_rfl, by kernel_rfl⟩
def i78 : TI := { u := .struct #[{ name := "Kind", type := 3, offset := 0, embedded := false, tag := "", pkgPath := "", byteOffset := 0 }, { name := "All", type := 33, offset := 1, embedded := false, tag := "", pkgPath := "", byteOffset := 8 }], sz := 2, bytes := 32, z := Value.agg ([Value.int .i64 0, Value.slice none 0 0]).toArray }
theorem ok78 : TI.ok Tryd.prog 78 i78 := ⟨by kernel_rfl, Tryd.t78, by kernel_rfl, by kernel_rfl, by kernel_rfl, by kernel_rfl⟩
def i79 : TI := { u := .struct #[{ name := "Kind", type := 3, offset := 0, embedded := false, tag := "", pkgPath := "", byteOffset := 0 }, { name := "All", type := 33, offset := 1, embedded := false, tag := "", pkgPath := "", byteOffset := 8 }], sz := 2, bytes := 32, z := Value.agg ([Value.int .i64 0, Value.slice none 0 0]).toArray }
theorem ok79 : TI.ok Tryd.prog 79 i79 := ⟨by kernel_rfl, Tryd.t79, by kernel_rfl, by kernel_rfl, by kernel_rfl, by kernel_rfl⟩
def i81 : TI := { u := .struct #[], sz := 0, bytes := 0, z := Value.agg ([]).toArray }
theorem ok81 : TI.ok Tryd.prog 81 i81 := ⟨by kernel_rfl, Tryd.t81, by kernel_rfl, by kernel_rfl, by kernel_rfl, by kernel_rfl⟩
def i82 : TI := { u := .struct #[], sz := 0, bytes := 0, z := Value.agg ([]).toArray }
theorem ok82 : TI.ok Tryd.prog 82 i82 := ⟨by kernel_rfl, Tryd.t82, by kernel_rfl, by kernel_rfl, by kernel_rfl, by kernel_rfl⟩
def i83 : TI := { u := .struct #[], sz := 0, bytes := 0, z := Value.agg ([]).toArray }
theorem ok83 : TI.ok Tryd.prog 83 i83 := ⟨by kernel_rfl, Tryd.t83, by kernel_rfl, by kernel_rfl, by kernel_rfl, by kernel_rfl⟩
def i84 : TI := { u := .struct #[], sz := 0, bytes := 0, z := Value.agg ([]).toArray }
theorem ok84 : TI.ok Tryd.prog 84 i84 := ⟨by kernel_rfl, Tryd.t84, by kernel_rfl, by kernel_rfl, by kernel_rfl, by kernel_rfl⟩
def i85 : TI := { u := .struct #[{ name := "_", type := 83, offset := 0, embedded := false, tag := "", pkgPath := "sync/atomic", byteOffset := 0 }, { name := "_", type := 84, offset := 0, embedded := false, tag := "", pkgPath := "sync/atomic", byteOffset := 0 }, { name := "v", type := 22, offset := 0, embedded := false, tag := "", pkgPath := "sync/atomic", byteOffset := 0 }], sz := 1, bytes := 8, z := Value.agg ([Value.int .u64 0]).toArray }
theorem ok85 : TI.ok Tryd.prog 85 i85 := ⟨by kernel_rfl, Tryd.t85, by kernel_rfl, by kernel_rfl, by kernel_rfl, by kernel_rfl⟩
def i86 : TI := { u := .struct #[{ name := "_", type := 83, offset := 0, embedded := false, tag := "", pkgPath := "sync/atomic", byteOffset := 0 }, { name := "_", type := 84, offset := 0, embedded := false, tag := "", pkgPath := "sync/atomic", byteOffset := 0 }, { name := "v", type := 22, offset := 0, embedded := false, tag := "", pkgPath := "sync/atomic", byteOffset := 0 }], sz := 1, bytes := 8, z := Value.agg ([Value.int .u64 0]).toArray }
theorem ok86 : TI.ok Tryd.prog 86 i86 := ⟨by kernel_rfl, Tryd.t86, by kernel_rfl, by kernel_rfl, by kernel_rfl, by kernel_rfl⟩
def i87 : TI := { u := .int .u32, sz := 1, bytes := 4, z := Value.int .u32 0 }
theorem ok87 : TI.ok Tryd.prog 87 i87 := ⟨by kernel_rfl, Tryd.t87, by kernel_rfl, by kernel_rfl, by kernel_rfl, by kernel_rfl⟩
def i88 : TI := { u := .struct #[{ name := "noCopy", type := 82, offset := 0, embedded := false, tag := "", pkgPath := "sync", byteOffset := 0 }, { name := "state", type := 86, offset := 0, embedded := false, tag := "", pkgPath := "sync", byteOffset := 0 }, { name := "sema", type := 87, offset := 1, embedded := false, tag := "", pkgPath := "sync", byteOffset := 8 }], sz := 2, bytes := 16, z := Value.agg ([Value.int .u64 0, Value.int .u32 0]).toArray }
theorem ok88 : TI.ok Tryd.prog 88 i88 := ⟨by kernel_rfl, Tryd.t88, by kernel_rfl, by kernel_rfl, by kernel_rfl, by kernel_rfl⟩
def i89 : TI := { u := .struct #[{ name := "noCopy", type := 82, offset := 0, embedded := false, tag := "", pkgPath := "sync", byteOffset := 0 }, { name := "state", type := 86, offset := 0, embedded := false, tag := "", pkgPath := "sync", byteOffset := 0 }, { name := "sema", type := 87, offset := 1, embedded := false, tag := "", pkgPath := "sync", byteOffset := 8 }], sz := 2, bytes := 16, z := Value.agg ([Value.int .u64 0, Value.int .u32 0]).toArray }
theorem ok89 : TI.ok Tryd.prog 89 i89 := ⟨by kernel_rfl, Tryd.t89, by kernel_rfl, by kernel_rfl, by kernel_rfl, by kernel_rfl⟩
def i91 : TI := { u := .int .u64, sz := 1, bytes := 8, z := Value.int .u64 0 }
theorem ok91 : TI.ok Tryd.prog 91 i91 := ⟨by kernel_rfl, Tryd.t91, by kernel_rfl, by kernel_rfl, by kernel_rfl, by kernel_rfl⟩
def i94 : TI := { u := .pointer 89, sz := 1, bytes := 8, z := Value.pointer none }
theorem ok94 : TI.ok Tryd.prog 94 i94 := ⟨by kernel_rfl, Tryd.t94, by kernel_rfl, by kernel_rfl, by kernel_rfl, by kernel_rfl⟩
def i96 : TI := { u := .unsafePointer, sz := 1, bytes := 8, z := Value.pointer none }
theorem ok96 : TI.ok Tryd.prog 96 i96 := ⟨by kernel_rfl, Tryd.t96, by kernel_rfl, by kernel_rfl, by kernel_rfl, by kernel_rfl⟩
def i97 : TI := { u := .int .i64, sz := 1, bytes := 8, z := Value.int .i64 0 }
theorem ok97 : TI.ok Tryd.prog 97 i97 := ⟨by kernel_rfl, Tryd.t97, by kernel_rfl, by kernel_rfl, by kernel_rfl, by kernel_rfl⟩
def i101 : TI := { u := .pointer 87, sz := 1, bytes := 8, z := Value.pointer none }
theorem ok101 : TI.ok Tryd.prog 101 i101 := ⟨by kernel_rfl, Tryd.t101, by kernel_rfl, by kernel_rfl, by kernel_rfl, by kernel_rfl⟩
def i109 : TI := { u := .pointer 86, sz := 1, bytes := 8, z := Value.pointer none }
theorem ok109 : TI.ok Tryd.prog 109 i109 := ⟨by kernel_rfl, Tryd.t109, by kernel_rfl, by kernel_rfl, by kernel_rfl, by kernel_rfl⟩
def i111 : TI := { u := .pointer 22, sz := 1, bytes := 8, z := Value.pointer none }
theorem ok111 : TI.ok Tryd.prog 111 i111 := ⟨by kernel_rfl, Tryd.t111, by kernel_rfl, by kernel_rfl, by kernel_rfl, by kernel_rfl⟩
def i116 : TI := { u := .struct #[{ name := "_interface", type := 17, offset := 0, embedded := false, tag := "", pkgPath := "runtime", byteOffset := 0 }, { name := "concrete", type := 17, offset := 1, embedded := false, tag := "", pkgPath := "runtime", byteOffset := 8 }, { name := "asserted", type := 17, offset := 2, embedded := false, tag := "", pkgPath := "runtime", byteOffset := 16 }, { name := "missingMethod", type := 9, offset := 3, embedded := false, tag := "", pkgPath := "runtime", byteOffset := 24 }], sz := 4, bytes := 40, z := Value.agg ([Value.pointer none, Value.pointer none, Value.pointer none, Value.string ByteArray.empty]).toArray }
theorem ok116 : TI.ok Tryd.prog 116 i116 := ⟨by kernel_rfl, Tryd.t116, by kernel_rfl, by kernel_rfl, by kernel_rfl, by kernel_rfl⟩
def i117 : TI := { u := .struct #[{ name := "_interface", type := 17, offset := 0, embedded := false, tag := "", pkgPath := "runtime", byteOffset := 0 }, { name := "concrete", type := 17, offset := 1, embedded := false, tag := "", pkgPath := "runtime", byteOffset := 8 }, { name := "asserted", type := 17, offset := 2, embedded := false, tag := "", pkgPath := "runtime", byteOffset := 16 }, { name := "missingMethod", type := 9, offset := 3, embedded := false, tag := "", pkgPath := "runtime", byteOffset := 24 }], sz := 4, bytes := 40, z := Value.agg ([Value.pointer none, Value.pointer none, Value.pointer none, Value.string ByteArray.empty]).toArray }
theorem ok117 : TI.ok Tryd.prog 117 i117 := ⟨by kernel_rfl, Tryd.t117, by kernel_rfl, by kernel_rfl, by kernel_rfl, by kernel_rfl⟩
def i118 : TI := { u := .array 0 16, sz := 0, bytes := 0, z := Value.agg ([]).toArray }
theorem ok118 : TI.ok Tryd.prog 118 i118 := ⟨by kernel_rfl, Tryd.t118, by kernel_rfl, by kernel_rfl, by kernel_rfl, by kernel_rfl⟩
def i119 : TI := { u := .struct #[{ name := "_", type := 118, offset := 0, embedded := false, tag := "", pkgPath := "runtime", byteOffset := 0 }], sz := 0, bytes := 0, z := Value.agg ([]).toArray }
theorem ok119 : TI.ok Tryd.prog 119 i119 := ⟨by kernel_rfl, Tryd.t119, by kernel_rfl, by kernel_rfl, by kernel_rfl, by kernel_rfl⟩
def i120 : TI := { u := .struct #[{ name := "_", type := 118, offset := 0, embedded := false, tag := "", pkgPath := "runtime", byteOffset := 0 }], sz := 0, bytes := 0, z := Value.agg ([]).toArray }
theorem ok120 : TI.ok Tryd.prog 120 i120 := ⟨by kernel_rfl, Tryd.t120, by kernel_rfl, by kernel_rfl, by kernel_rfl, by kernel_rfl⟩
def i121 : TI := { u := .int .u8, sz := 1, bytes := 1, z := Value.int .u8 0 }
theorem ok121 : TI.ok Tryd.prog 121 i121 := ⟨by kernel_rfl, Tryd.t121, by kernel_rfl, by kernel_rfl, by kernel_rfl, by kernel_rfl⟩
def i122 : TI := { u := .int .u8, sz := 1, bytes := 1, z := Value.int .u8 0 }
theorem ok122 : TI.ok Tryd.prog 122 i122 := ⟨by kernel_rfl, Tryd.t122, by kernel_rfl, by kernel_rfl, by kernel_rfl, by kernel_rfl⟩
def i124 : TI := { u := .pointer 5, sz := 1, bytes := 8, z := Value.pointer none }
theorem ok124 : TI.ok Tryd.prog 124 i124 := ⟨by kernel_rfl, Tryd.t124, by kernel_rfl, by kernel_rfl, by kernel_rfl, by kernel_rfl⟩
def i125 : TI := { u := .int .i32, sz := 1, bytes := 4, z := Value.int .i32 0 }
theorem ok125 : TI.ok Tryd.prog 125 i125 := ⟨by kernel_rfl, Tryd.t125, by kernel_rfl, by kernel_rfl, by kernel_rfl, by kernel_rfl⟩
def i126 : TI := { u := .int .i32, sz := 1, bytes := 4, z := Value.int .i32 0 }
theorem ok126 : TI.ok Tryd.prog 126 i126 := ⟨by kernel_rfl, Tryd.t126, by kernel_rfl, by kernel_rfl, by kernel_rfl, by kernel_rfl⟩
def i127 : TI := { u := .struct #[{ name := "Size_", type := 12, offset := 0, embedded := false, tag := "", pkgPath := "", byteOffset := 0 }, { name := "PtrBytes", type := 12, offset := 1, embedded := false, tag := "", pkgPath := "", byteOffset := 8 }, { name := "Hash", type := 87, offset := 2, embedded := false, tag := "", pkgPath := "", byteOffset := 16 }, { name := "TFlag", type := 121, offset := 3, embedded := false, tag := "", pkgPath := "", byteOffset := 20 }, { name := "Align_", type := 5, offset := 4, embedded := false, tag := "", pkgPath := "", byteOffset := 21 }, { name := "FieldAlign_", type := 5, offset := 5, embedded := false, tag := "", pkgPath := "", byteOffset := 22 }, { name := "Kind_", type := 122, offset := 6, embedded := false, tag := "", pkgPath := "", byteOffset := 23 }, { name := "Equal", type := 123, offset := 7, embedded := false, tag := "", pkgPath := "", byteOffset := 24 }, { name := "GCData", type := 124, offset := 8, embedded := false, tag := "", pkgPath := "", byteOffset := 32 }, { name := "Str", type := 125, offset := 9, embedded := false, tag := "", pkgPath := "", byteOffset := 40 }, { name := "PtrToThis", type := 126, offset := 10, embedded := false, tag := "", pkgPath := "", byteOffset := 44 }], sz := 11, bytes := 48, z := Value.agg ([Value.int .u64 0, Value.int .u64 0, Value.int .u32 0, Value.int .u8 0, Value.int .u8 0, Value.int .u8 0, Value.int .u8 0, Value.nilFunc, Value.pointer none, Value.int .i32 0, Value.int .i32 0]).toArray }
theorem ok127 : TI.ok Tryd.prog 127 i127 := ⟨by kernel_rfl, Tryd.t127, by kernel_rfl, by kernel_rfl, by kernel_rfl, by kernel_rfl⟩
def i128 : TI := { u := .struct #[{ name := "Size_", type := 12, offset := 0, embedded := false, tag := "", pkgPath := "", byteOffset := 0 }, { name := "PtrBytes", type := 12, offset := 1, embedded := false, tag := "", pkgPath := "", byteOffset := 8 }, { name := "Hash", type := 87, offset := 2, embedded := false, tag := "", pkgPath := "", byteOffset := 16 }, { name := "TFlag", type := 121, offset := 3, embedded := false, tag := "", pkgPath := "", byteOffset := 20 }, { name := "Align_", type := 5, offset := 4, embedded := false, tag := "", pkgPath := "", byteOffset := 21 }, { name := "FieldAlign_", type := 5, offset := 5, embedded := false, tag := "", pkgPath := "", byteOffset := 22 }, { name := "Kind_", type := 122, offset := 6, embedded := false, tag := "", pkgPath := "", byteOffset := 23 }, { name := "Equal", type := 123, offset := 7, embedded := false, tag := "", pkgPath := "", byteOffset := 24 }, { name := "GCData", type := 124, offset := 8, embedded := false, tag := "", pkgPath := "", byteOffset := 32 }, { name := "Str", type := 125, offset := 9, embedded := false, tag := "", pkgPath := "", byteOffset := 40 }, { name := "PtrToThis", type := 126, offset := 10, embedded := false, tag := "", pkgPath := "", byteOffset := 44 }], sz := 11, bytes := 48, z := Value.agg ([Value.int .u64 0, Value.int .u64 0, Value.int .u32 0, Value.int .u8 0, Value.int .u8 0, Value.int .u8 0, Value.int .u8 0, Value.nilFunc, Value.pointer none, Value.int .i32 0, Value.int .i32 0]).toArray }
theorem ok128 : TI.ok Tryd.prog 128 i128 := ⟨by kernel_rfl, Tryd.t128, by kernel_rfl, by kernel_rfl, by kernel_rfl, by kernel_rfl⟩
instance types : Types Tryd.prog where
  tbl := [(2, i2), (3, i3), (4, i4), (5, i5), (6, i6), (7, i7), (8, i8), (9, i9), (10, i10), (11, i11), (12, i12), (13, i13), (14, i14), (15, i15), (16, i16), (17, i17), (18, i18), (19, i19), (21, i21), (22, i22), (23, i23), (26, i26), (28, i28), (29, i29), (33, i33), (35, i35), (37, i37), (38, i38), (46, i46), (47, i47), (48, i48), (49, i49), (50, i50), (52, i52), (53, i53), (54, i54), (56, i56), (60, i60), (63, i63), (65, i65), (71, i71), (72, i72), (73, i73), (74, i74), (78, i78), (79, i79), (81, i81), (82, i82), (83, i83), (84, i84), (85, i85), (86, i86), (87, i87), (88, i88), (89, i89), (91, i91), (94, i94), (96, i96), (97, i97), (101, i101), (109, i109), (111, i111), (116, i116), (117, i117), (118, i118), (119, i119), (120, i120), (121, i121), (122, i122), (124, i124), (125, i125), (126, i126), (127, i127), (128, i128)]
  ok := TI.lk_all _ (AllOk.mem ⟨ok2, ok3, ok4, ok5, ok6, ok7, ok8, ok9, ok10, ok11, ok12, ok13, ok14, ok15, ok16, ok17, ok18, ok19, ok21, ok22, ok23, ok26, ok28, ok29, ok33, ok35, ok37, ok38, ok46, ok47, ok48, ok49, ok50, ok52, ok53, ok54, ok56, ok60, ok63, ok65, ok71, ok72, ok73, ok74, ok78, ok79, ok81, ok82, ok83, ok84, ok85, ok86, ok87, ok88, ok89, ok91, ok94, ok96, ok97, ok101, ok109, ok111, ok116, ok117, ok118, ok119, ok120, ok121, ok122, ok124, ok125, ok126, ok127, ok128, trivial⟩)
instance noGuard : NoGuard Tryd.prog where
  ts := [7, 8, 13, 14, 18, 19, 23, 28, 29, 48, 49, 50, 53, 54, 60, 63, 65, 71, 72, 73, 74, 78, 79, 81, 82, 83, 84, 85, 86, 88, 89, 116, 117, 118, 119, 120, 127, 128]
  ok := AllNG.mem ⟨Tryd.eqGuardType7, Tryd.eqGuardType8, Tryd.eqGuardType13, Tryd.eqGuardType14, Tryd.eqGuardType18, Tryd.eqGuardType19, Tryd.eqGuardType23, Tryd.eqGuardType28, Tryd.eqGuardType29, Tryd.eqGuardType48, Tryd.eqGuardType49, Tryd.eqGuardType50, Tryd.eqGuardType53, Tryd.eqGuardType54, Tryd.eqGuardType60, Tryd.eqGuardType63, Tryd.eqGuardType65, Tryd.eqGuardType71, Tryd.eqGuardType72, Tryd.eqGuardType73, Tryd.eqGuardType74, Tryd.eqGuardType78, Tryd.eqGuardType79, Tryd.eqGuardType81, Tryd.eqGuardType82, Tryd.eqGuardType83, Tryd.eqGuardType84, Tryd.eqGuardType85, Tryd.eqGuardType86, Tryd.eqGuardType88, Tryd.eqGuardType89, Tryd.eqGuardType116, Tryd.eqGuardType117, Tryd.eqGuardType118, Tryd.eqGuardType119, Tryd.eqGuardType120, Tryd.eqGuardType127, Tryd.eqGuardType128, trivial⟩
theorem mixed : Tryd.prog.follows .mixedOrders = true := by kernel_rfl
end Go.Fw.Tryd
