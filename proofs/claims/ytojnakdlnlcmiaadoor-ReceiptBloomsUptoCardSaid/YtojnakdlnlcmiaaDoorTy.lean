/- Part of a proof: rules that its law uses. -/
import Derived.Test.YtojnakdlnlcmiaaDoorProg
import Derived.Test.YtojnakdlnlcmiaaDoorFwB
set_option maxRecDepth 100000
namespace Go.Fw.Tryd
open Go Go.Proofs
def i2 : TI := { u := .int .i64, sz := 1, bytes := 8, z := Value.int .i64 0 }
theorem ok2 : TI.ok Tryd.prog 2 i2 := ⟨by kernel_rfl, Tryd.t2, by kernel_rfl, by kernel_rfl, by kernel_rfl, by kernel_rfl⟩
def i3 : TI := { u := .int .i64, sz := 1, bytes := 8, z := Value.int .i64 0 }
theorem ok3 : TI.ok Tryd.prog 3 i3 := ⟨by kernel_rfl, Tryd.t3, by kernel_rfl, by kernel_rfl, by kernel_rfl, by kernel_rfl⟩
def i4 : TI := { u := .bool, sz := 1, bytes := 1, z := Value.bool false }
theorem ok4 : TI.ok Tryd.prog 4 i4 := ⟨by kernel_rfl, Tryd.t4, by kernel_rfl, by kernel_rfl, by kernel_rfl, by kernel_rfl⟩
def i5 : TI := { u := .int .u8, sz := 1, bytes := 1, z := Value.int .u8 0 }
theorem ok5 : TI.ok Tryd.prog 5 i5 := ⟨by kernel_rfl, Tryd.t5, by kernel_rfl, by kernel_rfl, by kernel_rfl, by kernel_rfl⟩
def i6 : TI := { u := .int .u8, sz := 1, bytes := 1, z := Value.int .u8 0 }
theorem ok6 : TI.ok Tryd.prog 6 i6 := ⟨by kernel_rfl, Tryd.t6, by kernel_rfl, by kernel_rfl, by kernel_rfl, by kernel_rfl⟩
def i7 : TI := { u := .struct #[{ name := "x", type := 2, offset := 0, embedded := false, tag := "", pkgPath := "runtime", byteOffset := 0 }, { name := "y", type := 3, offset := 1, embedded := false, tag := "", pkgPath := "runtime", byteOffset := 8 }, { name := "signed", type := 4, offset := 2, embedded := false, tag := "", pkgPath := "runtime", byteOffset := 16 }, { name := "code", type := 6, offset := 3, embedded := false, tag := "", pkgPath := "runtime", byteOffset := 17 }], sz := 4, bytes := 24, z := Value.agg ([Value.int .i64 0, Value.int .i64 0, Value.bool false, Value.int .u8 0]).toArray }
theorem ok7 : TI.ok Tryd.prog 7 i7 := ⟨by kernel_rfl, Tryd.t7, by kernel_rfl, by kernel_rfl, by kernel_rfl, by kernel_rfl⟩
def i8 : TI := { u := .struct #[{ name := "x", type := 2, offset := 0, embedded := false, tag := "", pkgPath := "runtime", byteOffset := 0 }, { name := "y", type := 3, offset := 1, embedded := false, tag := "", pkgPath := "runtime", byteOffset := 8 }, { name := "signed", type := 4, offset := 2, embedded := false, tag := "", pkgPath := "runtime", byteOffset := 16 }, { name := "code", type := 6, offset := 3, embedded := false, tag := "", pkgPath := "runtime", byteOffset := 17 }], sz := 4, bytes := 24, z := Value.agg ([Value.int .i64 0, Value.int .i64 0, Value.bool false, Value.int .u8 0]).toArray }
theorem ok8 : TI.ok Tryd.prog 8 i8 := ⟨by kernel_rfl, Tryd.t8, by kernel_rfl, by kernel_rfl, by kernel_rfl, by kernel_rfl⟩
def i9 : TI := { u := .string, sz := 1, bytes := 16, z := Value.string ByteArray.empty }
theorem ok9 : TI.ok Tryd.prog 9 i9 := ⟨by kernel_rfl, Tryd.t9, by kernel_rfl, by kernel_rfl, by kernel_rfl, by kernel_rfl⟩
def i10 : TI := { u := .string, sz := 1, bytes := 16, z := Value.string ByteArray.empty }
theorem ok10 : TI.ok Tryd.prog 10 i10 := ⟨by kernel_rfl, Tryd.t10, by kernel_rfl, by kernel_rfl, by kernel_rfl, by kernel_rfl⟩
def i11 : TI := { u := .string, sz := 1, bytes := 16, z := Value.string ByteArray.empty }
theorem ok11 : TI.ok Tryd.prog 11 i11 := ⟨by kernel_rfl, Tryd.t11, by kernel_rfl, by kernel_rfl, by kernel_rfl, by kernel_rfl⟩
def i12 : TI := { u := .int .u64, sz := 1, bytes := 8, z := Value.int .u64 0 }
theorem ok12 : TI.ok Tryd.prog 12 i12 := ⟨by kernel_rfl, Tryd.t12, by kernel_rfl, by kernel_rfl, by kernel_rfl, by kernel_rfl⟩
def i13 : TI := { u := .struct #[{ name := "msg", type := 9, offset := 0, embedded := false, tag := "", pkgPath := "runtime", byteOffset := 0 }, { name := "addr", type := 12, offset := 1, embedded := false, tag := "", pkgPath := "runtime", byteOffset := 16 }], sz := 2, bytes := 24, z := Value.agg ([Value.string ByteArray.empty, Value.int .u64 0]).toArray }
theorem ok13 : TI.ok Tryd.prog 13 i13 := ⟨by kernel_rfl, Tryd.t13, by kernel_rfl, by kernel_rfl, by kernel_rfl, by kernel_rfl⟩
def i14 : TI := { u := .struct #[{ name := "msg", type := 9, offset := 0, embedded := false, tag := "", pkgPath := "runtime", byteOffset := 0 }, { name := "addr", type := 12, offset := 1, embedded := false, tag := "", pkgPath := "runtime", byteOffset := 16 }], sz := 2, bytes := 24, z := Value.agg ([Value.string ByteArray.empty, Value.int .u64 0]).toArray }
theorem ok14 : TI.ok Tryd.prog 14 i14 := ⟨by kernel_rfl, Tryd.t14, by kernel_rfl, by kernel_rfl, by kernel_rfl, by kernel_rfl⟩
def i15 : TI := { u := .pointer 215, sz := 1, bytes := 8, z := Value.pointer none }
theorem ok15 : TI.ok Tryd.prog 15 i15 := ⟨by kernel_rfl, Tryd.t15, by kernel_rfl, by kernel_rfl, by kernel_rfl, by kernel_rfl⟩
def i16 : TI := { u := .pointer 218, sz := 1, bytes := 8, z := Value.pointer none }
theorem ok16 : TI.ok Tryd.prog 16 i16 := ⟨by kernel_rfl, Tryd.t16, by kernel_rfl, by kernel_rfl, by kernel_rfl, by kernel_rfl⟩
def i17 : TI := { u := .pointer 228, sz := 1, bytes := 8, z := Value.pointer none }
theorem ok17 : TI.ok Tryd.prog 17 i17 := ⟨by kernel_rfl, Tryd.t17, by kernel_rfl, by kernel_rfl, by kernel_rfl, by kernel_rfl⟩
def i18 : TI := { u := .struct #[{ name := "typ", type := 17, offset := 0, embedded := false, tag := "", pkgPath := "internal/runtime/maps", byteOffset := 0 }], sz := 1, bytes := 8, z := Value.agg ([Value.pointer none]).toArray }
theorem ok18 : TI.ok Tryd.prog 18 i18 := ⟨by kernel_rfl, Tryd.t18, by kernel_rfl, by kernel_rfl, by kernel_rfl, by kernel_rfl⟩
def i19 : TI := { u := .struct #[{ name := "typ", type := 17, offset := 0, embedded := false, tag := "", pkgPath := "internal/runtime/maps", byteOffset := 0 }], sz := 1, bytes := 8, z := Value.agg ([Value.pointer none]).toArray }
theorem ok19 : TI.ok Tryd.prog 19 i19 := ⟨by kernel_rfl, Tryd.t19, by kernel_rfl, by kernel_rfl, by kernel_rfl, by kernel_rfl⟩
def i21 : TI := { u := .int .i32, sz := 1, bytes := 4, z := Value.int .i32 0 }
theorem ok21 : TI.ok Tryd.prog 21 i21 := ⟨by kernel_rfl, Tryd.t21, by kernel_rfl, by kernel_rfl, by kernel_rfl, by kernel_rfl⟩
def i22 : TI := { u := .slice 30, sz := 1, bytes := 24, z := Value.slice none 0 0 }
theorem ok22 : TI.ok Tryd.prog 22 i22 := ⟨by kernel_rfl, Tryd.t22, by kernel_rfl, by kernel_rfl, by kernel_rfl, by kernel_rfl⟩
def i23 : TI := { u := .array 32 5, sz := 32, bytes := 32, z := Value.agg (List.replicate 32 (Value.int .u8 0)).toArray }
theorem ok23 : TI.ok Tryd.prog 23 i23 := ⟨by kernel_rfl, Tryd.t23, by kernel_rfl, by kernel_rfl, by kernel_rfl, by kernel_rfl⟩
def i24 : TI := { u := .array 32 5, sz := 32, bytes := 32, z := Value.agg (List.replicate 32 (Value.int .u8 0)).toArray }
theorem ok24 : TI.ok Tryd.prog 24 i24 := ⟨by kernel_rfl, Tryd.t24, by kernel_rfl, by kernel_rfl, by kernel_rfl, by kernel_rfl⟩
def i25 : TI := { u := .int .u64, sz := 1, bytes := 8, z := Value.int .u64 0 }
theorem ok25 : TI.ok Tryd.prog 25 i25 := ⟨by kernel_rfl, Tryd.t25, by kernel_rfl, by kernel_rfl, by kernel_rfl, by kernel_rfl⟩
def i26 : TI := { u := .array 256 5, sz := 256, bytes := 256, z := Value.agg (List.replicate 256 (Value.int .u8 0)).toArray }
theorem ok26 : TI.ok Tryd.prog 26 i26 := ⟨by kernel_rfl, Tryd.t26, by kernel_rfl, by kernel_rfl, by kernel_rfl, by kernel_rfl⟩
def i27 : TI := { u := .array 256 5, sz := 256, bytes := 256, z := Value.agg (List.replicate 256 (Value.int .u8 0)).toArray }
theorem ok27 : TI.ok Tryd.prog 27 i27 := ⟨by kernel_rfl, Tryd.t27, by kernel_rfl, by kernel_rfl, by kernel_rfl, by kernel_rfl⟩
def i28 : TI := { u := .slice 63, sz := 1, bytes := 24, z := Value.slice none 0 0 }
theorem ok28 : TI.ok Tryd.prog 28 i28 := ⟨by kernel_rfl, Tryd.t28, by kernel_rfl, by kernel_rfl, by kernel_rfl, by kernel_rfl⟩
def i29 : TI := { u := .struct #[{ name := "Type", type := 3, offset := 0, embedded := false, tag := "", pkgPath := "", byteOffset := 0 }, { name := "Rooted", type := 4, offset := 1, embedded := false, tag := "", pkgPath := "", byteOffset := 8 }, { name := "Root", type := 24, offset := 2, embedded := false, tag := "", pkgPath := "", byteOffset := 9 }, { name := "Status", type := 25, offset := 34, embedded := false, tag := "", pkgPath := "", byteOffset := 48 }, { name := "Used", type := 25, offset := 35, embedded := false, tag := "", pkgPath := "", byteOffset := 56 }, { name := "Bloom", type := 27, offset := 36, embedded := false, tag := "", pkgPath := "", byteOffset := 64 }, { name := "Logs", type := 28, offset := 292, embedded := false, tag := "", pkgPath := "", byteOffset := 320 }], sz := 293, bytes := 344, z := Value.agg ([Value.int .i64 0] ++ [Value.bool false] ++ List.replicate 32 (Value.int .u8 0) ++ List.replicate 2 (Value.int .u64 0) ++ List.replicate 256 (Value.int .u8 0) ++ [Value.slice none 0 0]).toArray }
theorem ok29 : TI.ok Tryd.prog 29 i29 := ⟨by kernel_rfl, Tryd.t29, by kernel_rfl, by kernel_rfl, by kernel_rfl, by kernel_rfl⟩
def i30 : TI := { u := .struct #[{ name := "Type", type := 3, offset := 0, embedded := false, tag := "", pkgPath := "", byteOffset := 0 }, { name := "Rooted", type := 4, offset := 1, embedded := false, tag := "", pkgPath := "", byteOffset := 8 }, { name := "Root", type := 24, offset := 2, embedded := false, tag := "", pkgPath := "", byteOffset := 9 }, { name := "Status", type := 25, offset := 34, embedded := false, tag := "", pkgPath := "", byteOffset := 48 }, { name := "Used", type := 25, offset := 35, embedded := false, tag := "", pkgPath := "", byteOffset := 56 }, { name := "Bloom", type := 27, offset := 36, embedded := false, tag := "", pkgPath := "", byteOffset := 64 }, { name := "Logs", type := 28, offset := 292, embedded := false, tag := "", pkgPath := "", byteOffset := 320 }], sz := 293, bytes := 344, z := Value.agg ([Value.int .i64 0] ++ [Value.bool false] ++ List.replicate 32 (Value.int .u8 0) ++ List.replicate 2 (Value.int .u64 0) ++ List.replicate 256 (Value.int .u8 0) ++ [Value.slice none 0 0]).toArray }
theorem ok30 : TI.ok Tryd.prog 30 i30 := ⟨by kernel_rfl, Tryd.t30, by kernel_rfl, by kernel_rfl, by kernel_rfl, by kernel_rfl⟩
def i32 : TI := { u := .slice 25, sz := 1, bytes := 24, z := Value.slice none 0 0 }
theorem ok32 : TI.ok Tryd.prog 32 i32 := ⟨by kernel_rfl, Tryd.t32, by kernel_rfl, by kernel_rfl, by kernel_rfl, by kernel_rfl⟩
def i33 : TI := { u := .int .i64, sz := 1, bytes := 8, z := Value.int .i64 0 }
theorem ok33 : TI.ok Tryd.prog 33 i33 := ⟨by kernel_rfl, Tryd.t33, by kernel_rfl, by kernel_rfl, by kernel_rfl, by kernel_rfl⟩
def i41 : TI := { u := .slice 60, sz := 1, bytes := 24, z := Value.slice none 0 0 }
theorem ok41 : TI.ok Tryd.prog 41 i41 := ⟨by kernel_rfl, Tryd.t41, by kernel_rfl, by kernel_rfl, by kernel_rfl, by kernel_rfl⟩
def i42 : TI := { u := .slice 45, sz := 1, bytes := 24, z := Value.slice none 0 0 }
theorem ok42 : TI.ok Tryd.prog 42 i42 := ⟨by kernel_rfl, Tryd.t42, by kernel_rfl, by kernel_rfl, by kernel_rfl, by kernel_rfl⟩
def i45 : TI := { u := .slice 24, sz := 1, bytes := 24, z := Value.slice none 0 0 }
theorem ok45 : TI.ok Tryd.prog 45 i45 := ⟨by kernel_rfl, Tryd.t45, by kernel_rfl, by kernel_rfl, by kernel_rfl, by kernel_rfl⟩
def i47 : TI := { u := .slice 3, sz := 1, bytes := 24, z := Value.slice none 0 0 }
theorem ok47 : TI.ok Tryd.prog 47 i47 := ⟨by kernel_rfl, Tryd.t47, by kernel_rfl, by kernel_rfl, by kernel_rfl, by kernel_rfl⟩
def i59 : TI := { u := .array 20 5, sz := 20, bytes := 20, z := Value.agg (List.replicate 20 (Value.int .u8 0)).toArray }
theorem ok59 : TI.ok Tryd.prog 59 i59 := ⟨by kernel_rfl, Tryd.t59, by kernel_rfl, by kernel_rfl, by kernel_rfl, by kernel_rfl⟩
def i60 : TI := { u := .array 20 5, sz := 20, bytes := 20, z := Value.agg (List.replicate 20 (Value.int .u8 0)).toArray }
theorem ok60 : TI.ok Tryd.prog 60 i60 := ⟨by kernel_rfl, Tryd.t60, by kernel_rfl, by kernel_rfl, by kernel_rfl, by kernel_rfl⟩
def i61 : TI := { u := .slice 5, sz := 1, bytes := 24, z := Value.slice none 0 0 }
theorem ok61 : TI.ok Tryd.prog 61 i61 := ⟨by kernel_rfl, Tryd.t61, by kernel_rfl, by kernel_rfl, by kernel_rfl, by kernel_rfl⟩
def i62 : TI := { u := .struct #[{ name := "Address", type := 60, offset := 0, embedded := false, tag := "", pkgPath := "", byteOffset := 0 }, { name := "Topics", type := 45, offset := 20, embedded := false, tag := "", pkgPath := "", byteOffset := 24 }, { name := "Data", type := 61, offset := 21, embedded := false, tag := "", pkgPath := "", byteOffset := 48 }], sz := 22, bytes := 72, z := Value.agg (List.replicate 20 (Value.int .u8 0) ++ List.replicate 2 (Value.slice none 0 0)).toArray }
theorem ok62 : TI.ok Tryd.prog 62 i62 := ⟨by kernel_rfl, Tryd.t62, by kernel_rfl, by kernel_rfl, by kernel_rfl, by kernel_rfl⟩
def i63 : TI := { u := .struct #[{ name := "Address", type := 60, offset := 0, embedded := false, tag := "", pkgPath := "", byteOffset := 0 }, { name := "Topics", type := 45, offset := 20, embedded := false, tag := "", pkgPath := "", byteOffset := 24 }, { name := "Data", type := 61, offset := 21, embedded := false, tag := "", pkgPath := "", byteOffset := 48 }], sz := 22, bytes := 72, z := Value.agg (List.replicate 20 (Value.int .u8 0) ++ List.replicate 2 (Value.slice none 0 0)).toArray }
theorem ok63 : TI.ok Tryd.prog 63 i63 := ⟨by kernel_rfl, Tryd.t63, by kernel_rfl, by kernel_rfl, by kernel_rfl, by kernel_rfl⟩
def i80 : TI := { u := .int .u64, sz := 1, bytes := 8, z := Value.int .u64 0 }
theorem ok80 : TI.ok Tryd.prog 80 i80 := ⟨by kernel_rfl, Tryd.t80, by kernel_rfl, by kernel_rfl, by kernel_rfl, by kernel_rfl⟩
def i85 : TI := { u := .slice 61, sz := 1, bytes := 24, z := Value.slice none 0 0 }
theorem ok85 : TI.ok Tryd.prog 85 i85 := ⟨by kernel_rfl, Tryd.t85, by kernel_rfl, by kernel_rfl, by kernel_rfl, by kernel_rfl⟩
def i87 : TI := { u := .slice 89, sz := 1, bytes := 24, z := Value.slice none 0 0 }
theorem ok87 : TI.ok Tryd.prog 87 i87 := ⟨by kernel_rfl, Tryd.t87, by kernel_rfl, by kernel_rfl, by kernel_rfl, by kernel_rfl⟩
def i88 : TI := { u := .struct #[{ name := "List", type := 4, offset := 0, embedded := false, tag := "", pkgPath := "", byteOffset := 0 }, { name := "Data", type := 61, offset := 1, embedded := false, tag := "", pkgPath := "", byteOffset := 8 }, { name := "Items", type := 87, offset := 2, embedded := false, tag := "", pkgPath := "", byteOffset := 32 }], sz := 3, bytes := 56, z := Value.agg ([Value.bool false, Value.slice none 0 0, Value.slice none 0 0]).toArray }
theorem ok88 : TI.ok Tryd.prog 88 i88 := ⟨by kernel_rfl, Tryd.t88, by kernel_rfl, by kernel_rfl, by kernel_rfl, by kernel_rfl⟩
def i89 : TI := { u := .struct #[{ name := "List", type := 4, offset := 0, embedded := false, tag := "", pkgPath := "", byteOffset := 0 }, { name := "Data", type := 61, offset := 1, embedded := false, tag := "", pkgPath := "", byteOffset := 8 }, { name := "Items", type := 87, offset := 2, embedded := false, tag := "", pkgPath := "", byteOffset := 32 }], sz := 3, bytes := 56, z := Value.agg ([Value.bool false, Value.slice none 0 0, Value.slice none 0 0]).toArray }
theorem ok89 : TI.ok Tryd.prog 89 i89 := ⟨by kernel_rfl, Tryd.t89, by kernel_rfl, by kernel_rfl, by kernel_rfl, by kernel_rfl⟩
def i94 : TI := { u := .slice 27, sz := 1, bytes := 24, z := Value.slice none 0 0 }
theorem ok94 : TI.ok Tryd.prog 94 i94 := ⟨by kernel_rfl, Tryd.t94, by kernel_rfl, by kernel_rfl, by kernel_rfl, by kernel_rfl⟩
def i95 : TI := { u := .array 3 3, sz := 3, bytes := 24, z := Value.agg ([Value.int .i64 0, Value.int .i64 0, Value.int .i64 0]).toArray }
theorem ok95 : TI.ok Tryd.prog 95 i95 := ⟨by kernel_rfl, Tryd.t95, by kernel_rfl, by kernel_rfl, by kernel_rfl, by kernel_rfl⟩
def i108 : TI := { u := .struct #[{ name := "err", type := 33, offset := 0, embedded := false, tag := "", pkgPath := "waybill/receipt", byteOffset := 0 }], sz := 1, bytes := 8, z := Value.agg ([Value.int .i64 0]).toArray }
theorem ok108 : TI.ok Tryd.prog 108 i108 := ⟨by kernel_rfl, Tryd.t108, by kernel_rfl, by kernel_rfl, by kernel_rfl, by kernel_rfl⟩
def i109 : TI := { u := .struct #[{ name := "err", type := 33, offset := 0, embedded := false, tag := "", pkgPath := "waybill/receipt", byteOffset := 0 }], sz := 1, bytes := 8, z := Value.agg ([Value.int .i64 0]).toArray }
theorem ok109 : TI.ok Tryd.prog 109 i109 := ⟨by kernel_rfl, Tryd.t109, by kernel_rfl, by kernel_rfl, by kernel_rfl, by kernel_rfl⟩
def i111 : TI := { u := .pointer 30, sz := 1, bytes := 8, z := Value.pointer none }
theorem ok111 : TI.ok Tryd.prog 111 i111 := ⟨by kernel_rfl, Tryd.t111, by kernel_rfl, by kernel_rfl, by kernel_rfl, by kernel_rfl⟩
def i113 : TI := { u := .pointer 25, sz := 1, bytes := 8, z := Value.pointer none }
theorem ok113 : TI.ok Tryd.prog 113 i113 := ⟨by kernel_rfl, Tryd.t113, by kernel_rfl, by kernel_rfl, by kernel_rfl, by kernel_rfl⟩
def i115 : TI := { u := .pointer 27, sz := 1, bytes := 8, z := Value.pointer none }
theorem ok115 : TI.ok Tryd.prog 115 i115 := ⟨by kernel_rfl, Tryd.t115, by kernel_rfl, by kernel_rfl, by kernel_rfl, by kernel_rfl⟩
def i117 : TI := { u := .pointer 28, sz := 1, bytes := 8, z := Value.pointer none }
theorem ok117 : TI.ok Tryd.prog 117 i117 := ⟨by kernel_rfl, Tryd.t117, by kernel_rfl, by kernel_rfl, by kernel_rfl, by kernel_rfl⟩
def i127 : TI := { u := .array 4 25, sz := 4, bytes := 32, z := Value.agg ([Value.int .u64 0, Value.int .u64 0, Value.int .u64 0, Value.int .u64 0]).toArray }
theorem ok127 : TI.ok Tryd.prog 127 i127 := ⟨by kernel_rfl, Tryd.t127, by kernel_rfl, by kernel_rfl, by kernel_rfl, by kernel_rfl⟩
def i128 : TI := { u := .array 4 25, sz := 4, bytes := 32, z := Value.agg ([Value.int .u64 0, Value.int .u64 0, Value.int .u64 0, Value.int .u64 0]).toArray }
theorem ok128 : TI.ok Tryd.prog 128 i128 := ⟨by kernel_rfl, Tryd.t128, by kernel_rfl, by kernel_rfl, by kernel_rfl, by kernel_rfl⟩
def i137 : TI := { u := .slice 141, sz := 1, bytes := 24, z := Value.slice none 0 0 }
theorem ok137 : TI.ok Tryd.prog 137 i137 := ⟨by kernel_rfl, Tryd.t137, by kernel_rfl, by kernel_rfl, by kernel_rfl, by kernel_rfl⟩
def i140 : TI := { u := .struct #[{ name := "items", type := 87, offset := 0, embedded := false, tag := "", pkgPath := "waybill/rlp", byteOffset := 0 }, { name := "behind", type := 61, offset := 1, embedded := false, tag := "", pkgPath := "waybill/rlp", byteOffset := 24 }], sz := 2, bytes := 48, z := Value.agg ([Value.slice none 0 0, Value.slice none 0 0]).toArray }
theorem ok140 : TI.ok Tryd.prog 140 i140 := ⟨by kernel_rfl, Tryd.t140, by kernel_rfl, by kernel_rfl, by kernel_rfl, by kernel_rfl⟩
def i141 : TI := { u := .struct #[{ name := "items", type := 87, offset := 0, embedded := false, tag := "", pkgPath := "waybill/rlp", byteOffset := 0 }, { name := "behind", type := 61, offset := 1, embedded := false, tag := "", pkgPath := "waybill/rlp", byteOffset := 24 }], sz := 2, bytes := 48, z := Value.agg ([Value.slice none 0 0, Value.slice none 0 0]).toArray }
theorem ok141 : TI.ok Tryd.prog 141 i141 := ⟨by kernel_rfl, Tryd.t141, by kernel_rfl, by kernel_rfl, by kernel_rfl, by kernel_rfl⟩
def i143 : TI := { u := .pointer 109, sz := 1, bytes := 8, z := Value.pointer none }
theorem ok143 : TI.ok Tryd.prog 143 i143 := ⟨by kernel_rfl, Tryd.t143, by kernel_rfl, by kernel_rfl, by kernel_rfl, by kernel_rfl⟩
def i174 : TI := { u := .pointer 45, sz := 1, bytes := 8, z := Value.pointer none }
theorem ok174 : TI.ok Tryd.prog 174 i174 := ⟨by kernel_rfl, Tryd.t174, by kernel_rfl, by kernel_rfl, by kernel_rfl, by kernel_rfl⟩
def i175 : TI := { u := .struct #[{ name := "List", type := 4, offset := 0, embedded := false, tag := "", pkgPath := "", byteOffset := 0 }, { name := "From", type := 3, offset := 1, embedded := false, tag := "", pkgPath := "", byteOffset := 8 }, { name := "To", type := 3, offset := 2, embedded := false, tag := "", pkgPath := "", byteOffset := 16 }], sz := 3, bytes := 24, z := Value.agg ([Value.bool false, Value.int .i64 0, Value.int .i64 0]).toArray }
theorem ok175 : TI.ok Tryd.prog 175 i175 := ⟨by kernel_rfl, Tryd.t175, by kernel_rfl, by kernel_rfl, by kernel_rfl, by kernel_rfl⟩
def i176 : TI := { u := .struct #[{ name := "List", type := 4, offset := 0, embedded := false, tag := "", pkgPath := "", byteOffset := 0 }, { name := "From", type := 3, offset := 1, embedded := false, tag := "", pkgPath := "", byteOffset := 8 }, { name := "To", type := 3, offset := 2, embedded := false, tag := "", pkgPath := "", byteOffset := 16 }], sz := 3, bytes := 24, z := Value.agg ([Value.bool false, Value.int .i64 0, Value.int .i64 0]).toArray }
theorem ok176 : TI.ok Tryd.prog 176 i176 := ⟨by kernel_rfl, Tryd.t176, by kernel_rfl, by kernel_rfl, by kernel_rfl, by kernel_rfl⟩
def i183 : TI := { u := .array 25 25, sz := 25, bytes := 200, z := Value.agg (List.replicate 25 (Value.int .u64 0)).toArray }
theorem ok183 : TI.ok Tryd.prog 183 i183 := ⟨by kernel_rfl, Tryd.t183, by kernel_rfl, by kernel_rfl, by kernel_rfl, by kernel_rfl⟩
def i184 : TI := { u := .array 136 5, sz := 136, bytes := 136, z := Value.agg (List.replicate 136 (Value.int .u8 0)).toArray }
theorem ok184 : TI.ok Tryd.prog 184 i184 := ⟨by kernel_rfl, Tryd.t184, by kernel_rfl, by kernel_rfl, by kernel_rfl, by kernel_rfl⟩
def i185 : TI := { u := .struct #[{ name := "kind", type := 3, offset := 0, embedded := false, tag := "", pkgPath := "waybill/keccak", byteOffset := 0 }, { name := "lanes", type := 183, offset := 1, embedded := false, tag := "", pkgPath := "waybill/keccak", byteOffset := 8 }, { name := "part", type := 184, offset := 26, embedded := false, tag := "", pkgPath := "waybill/keccak", byteOffset := 208 }, { name := "held", type := 3, offset := 162, embedded := false, tag := "", pkgPath := "waybill/keccak", byteOffset := 344 }, { name := "long", type := 3, offset := 163, embedded := false, tag := "", pkgPath := "waybill/keccak", byteOffset := 352 }], sz := 164, bytes := 360, z := Value.agg ([Value.int .i64 0] ++ List.replicate 25 (Value.int .u64 0) ++ List.replicate 136 (Value.int .u8 0) ++ List.replicate 2 (Value.int .i64 0)).toArray }
theorem ok185 : TI.ok Tryd.prog 185 i185 := ⟨by kernel_rfl, Tryd.t185, by kernel_rfl, by kernel_rfl, by kernel_rfl, by kernel_rfl⟩
def i186 : TI := { u := .struct #[{ name := "kind", type := 3, offset := 0, embedded := false, tag := "", pkgPath := "waybill/keccak", byteOffset := 0 }, { name := "lanes", type := 183, offset := 1, embedded := false, tag := "", pkgPath := "waybill/keccak", byteOffset := 8 }, { name := "part", type := 184, offset := 26, embedded := false, tag := "", pkgPath := "waybill/keccak", byteOffset := 208 }, { name := "held", type := 3, offset := 162, embedded := false, tag := "", pkgPath := "waybill/keccak", byteOffset := 344 }, { name := "long", type := 3, offset := 163, embedded := false, tag := "", pkgPath := "waybill/keccak", byteOffset := 352 }], sz := 164, bytes := 360, z := Value.agg ([Value.int .i64 0] ++ List.replicate 25 (Value.int .u64 0) ++ List.replicate 136 (Value.int .u8 0) ++ List.replicate 2 (Value.int .i64 0)).toArray }
theorem ok186 : TI.ok Tryd.prog 186 i186 := ⟨by kernel_rfl, Tryd.t186, by kernel_rfl, by kernel_rfl, by kernel_rfl, by kernel_rfl⟩
def i197 : TI := { u := .pointer 186, sz := 1, bytes := 8, z := Value.pointer none }
theorem ok197 : TI.ok Tryd.prog 197 i197 := ⟨by kernel_rfl, Tryd.t197, by kernel_rfl, by kernel_rfl, by kernel_rfl, by kernel_rfl⟩
def i198 : TI := { u := .array 2 5, sz := 2, bytes := 2, z := Value.agg ([Value.int .u8 0, Value.int .u8 0]).toArray }
theorem ok198 : TI.ok Tryd.prog 198 i198 := ⟨by kernel_rfl, Tryd.t198, by kernel_rfl, by kernel_rfl, by kernel_rfl, by kernel_rfl⟩
def i205 : TI := { u := .array 24 25, sz := 24, bytes := 192, z := Value.agg (List.replicate 24 (Value.int .u64 0)).toArray }
theorem ok205 : TI.ok Tryd.prog 205 i205 := ⟨by kernel_rfl, Tryd.t205, by kernel_rfl, by kernel_rfl, by kernel_rfl, by kernel_rfl⟩
def i206 : TI := { u := .array 25 3, sz := 25, bytes := 200, z := Value.agg (List.replicate 25 (Value.int .i64 0)).toArray }
theorem ok206 : TI.ok Tryd.prog 206 i206 := ⟨by kernel_rfl, Tryd.t206, by kernel_rfl, by kernel_rfl, by kernel_rfl, by kernel_rfl⟩
def i210 : TI := { u := .array 5 25, sz := 5, bytes := 40, z := Value.agg ([Value.int .u64 0, Value.int .u64 0, Value.int .u64 0, Value.int .u64 0, Value.int .u64 0]).toArray }
theorem ok210 : TI.ok Tryd.prog 210 i210 := ⟨by kernel_rfl, Tryd.t210, by kernel_rfl, by kernel_rfl, by kernel_rfl, by kernel_rfl⟩
def i214 : TI := { u := .struct #[{ name := "_interface", type := 17, offset := 0, embedded := false, tag := "", pkgPath := "runtime", byteOffset := 0 }, { name := "concrete", type := 17, offset := 1, embedded := false, tag := "", pkgPath := "runtime", byteOffset := 8 }, { name := "asserted", type := 17, offset := 2, embedded := false, tag := "", pkgPath := "runtime", byteOffset := 16 }, { name := "missingMethod", type := 9, offset := 3, embedded := false, tag := "", pkgPath := "runtime", byteOffset := 24 }], sz := 4, bytes := 40, z := Value.agg ([Value.pointer none, Value.pointer none, Value.pointer none, Value.string ByteArray.empty]).toArray }
theorem ok214 : TI.ok Tryd.prog 214 i214 := ⟨by kernel_rfl, Tryd.t214, by kernel_rfl, by kernel_rfl, by kernel_rfl, by kernel_rfl⟩
def i215 : TI := { u := .struct #[{ name := "_interface", type := 17, offset := 0, embedded := false, tag := "", pkgPath := "runtime", byteOffset := 0 }, { name := "concrete", type := 17, offset := 1, embedded := false, tag := "", pkgPath := "runtime", byteOffset := 8 }, { name := "asserted", type := 17, offset := 2, embedded := false, tag := "", pkgPath := "runtime", byteOffset := 16 }, { name := "missingMethod", type := 9, offset := 3, embedded := false, tag := "", pkgPath := "runtime", byteOffset := 24 }], sz := 4, bytes := 40, z := Value.agg ([Value.pointer none, Value.pointer none, Value.pointer none, Value.string ByteArray.empty]).toArray }
theorem ok215 : TI.ok Tryd.prog 215 i215 := ⟨by kernel_rfl, Tryd.t215, by kernel_rfl, by kernel_rfl, by kernel_rfl, by kernel_rfl⟩
def i216 : TI := { u := .array 0 16, sz := 0, bytes := 0, z := Value.agg ([]).toArray }
theorem ok216 : TI.ok Tryd.prog 216 i216 := ⟨by kernel_rfl, Tryd.t216, by kernel_rfl, by kernel_rfl, by kernel_rfl, by kernel_rfl⟩
def i217 : TI := { u := .struct #[{ name := "_", type := 216, offset := 0, embedded := false, tag := "", pkgPath := "runtime", byteOffset := 0 }], sz := 0, bytes := 0, z := Value.agg ([]).toArray }
theorem ok217 : TI.ok Tryd.prog 217 i217 := ⟨by kernel_rfl, Tryd.t217, by kernel_rfl, by kernel_rfl, by kernel_rfl, by kernel_rfl⟩
def i218 : TI := { u := .struct #[{ name := "_", type := 216, offset := 0, embedded := false, tag := "", pkgPath := "runtime", byteOffset := 0 }], sz := 0, bytes := 0, z := Value.agg ([]).toArray }
theorem ok218 : TI.ok Tryd.prog 218 i218 := ⟨by kernel_rfl, Tryd.t218, by kernel_rfl, by kernel_rfl, by kernel_rfl, by kernel_rfl⟩
def i220 : TI := { u := .int .u32, sz := 1, bytes := 4, z := Value.int .u32 0 }
theorem ok220 : TI.ok Tryd.prog 220 i220 := ⟨by kernel_rfl, Tryd.t220, by kernel_rfl, by kernel_rfl, by kernel_rfl, by kernel_rfl⟩
def i221 : TI := { u := .int .u8, sz := 1, bytes := 1, z := Value.int .u8 0 }
theorem ok221 : TI.ok Tryd.prog 221 i221 := ⟨by kernel_rfl, Tryd.t221, by kernel_rfl, by kernel_rfl, by kernel_rfl, by kernel_rfl⟩
def i222 : TI := { u := .int .u8, sz := 1, bytes := 1, z := Value.int .u8 0 }
theorem ok222 : TI.ok Tryd.prog 222 i222 := ⟨by kernel_rfl, Tryd.t222, by kernel_rfl, by kernel_rfl, by kernel_rfl, by kernel_rfl⟩
def i224 : TI := { u := .pointer 5, sz := 1, bytes := 8, z := Value.pointer none }
theorem ok224 : TI.ok Tryd.prog 224 i224 := ⟨by kernel_rfl, Tryd.t224, by kernel_rfl, by kernel_rfl, by kernel_rfl, by kernel_rfl⟩
def i225 : TI := { u := .int .i32, sz := 1, bytes := 4, z := Value.int .i32 0 }
theorem ok225 : TI.ok Tryd.prog 225 i225 := ⟨by kernel_rfl, Tryd.t225, by kernel_rfl, by kernel_rfl, by kernel_rfl, by kernel_rfl⟩
def i226 : TI := { u := .int .i32, sz := 1, bytes := 4, z := Value.int .i32 0 }
theorem ok226 : TI.ok Tryd.prog 226 i226 := ⟨by kernel_rfl, Tryd.t226, by kernel_rfl, by kernel_rfl, by kernel_rfl, by kernel_rfl⟩
def i227 : TI := { u := .struct #[{ name := "Size_", type := 12, offset := 0, embedded := false, tag := "", pkgPath := "", byteOffset := 0 }, { name := "PtrBytes", type := 12, offset := 1, embedded := false, tag := "", pkgPath := "", byteOffset := 8 }, { name := "Hash", type := 220, offset := 2, embedded := false, tag := "", pkgPath := "", byteOffset := 16 }, { name := "TFlag", type := 221, offset := 3, embedded := false, tag := "", pkgPath := "", byteOffset := 20 }, { name := "Align_", type := 5, offset := 4, embedded := false, tag := "", pkgPath := "", byteOffset := 21 }, { name := "FieldAlign_", type := 5, offset := 5, embedded := false, tag := "", pkgPath := "", byteOffset := 22 }, { name := "Kind_", type := 222, offset := 6, embedded := false, tag := "", pkgPath := "", byteOffset := 23 }, { name := "Equal", type := 223, offset := 7, embedded := false, tag := "", pkgPath := "", byteOffset := 24 }, { name := "GCData", type := 224, offset := 8, embedded := false, tag := "", pkgPath := "", byteOffset := 32 }, { name := "Str", type := 225, offset := 9, embedded := false, tag := "", pkgPath := "", byteOffset := 40 }, { name := "PtrToThis", type := 226, offset := 10, embedded := false, tag := "", pkgPath := "", byteOffset := 44 }], sz := 11, bytes := 48, z := Value.agg ([Value.int .u64 0, Value.int .u64 0, Value.int .u32 0, Value.int .u8 0, Value.int .u8 0, Value.int .u8 0, Value.int .u8 0, Value.nilFunc, Value.pointer none, Value.int .i32 0, Value.int .i32 0]).toArray }
theorem ok227 : TI.ok Tryd.prog 227 i227 := ⟨by kernel_rfl, Tryd.t227, by kernel_rfl, by kernel_rfl, by kernel_rfl, by kernel_rfl⟩
def i228 : TI := { u := .struct #[{ name := "Size_", type := 12, offset := 0, embedded := false, tag := "", pkgPath := "", byteOffset := 0 }, { name := "PtrBytes", type := 12, offset := 1, embedded := false, tag := "", pkgPath := "", byteOffset := 8 }, { name := "Hash", type := 220, offset := 2, embedded := false, tag := "", pkgPath := "", byteOffset := 16 }, { name := "TFlag", type := 221, offset := 3, embedded := false, tag := "", pkgPath := "", byteOffset := 20 }, { name := "Align_", type := 5, offset := 4, embedded := false, tag := "", pkgPath := "", byteOffset := 21 }, { name := "FieldAlign_", type := 5, offset := 5, embedded := false, tag := "", pkgPath := "", byteOffset := 22 }, { name := "Kind_", type := 222, offset := 6, embedded := false, tag := "", pkgPath := "", byteOffset := 23 }, { name := "Equal", type := 223, offset := 7, embedded := false, tag := "", pkgPath := "", byteOffset := 24 }, { name := "GCData", type := 224, offset := 8, embedded := false, tag := "", pkgPath := "", byteOffset := 32 }, { name := "Str", type := 225, offset := 9, embedded := false, tag := "", pkgPath := "", byteOffset := 40 }, { name := "PtrToThis", type := 226, offset := 10, embedded := false, tag := "", pkgPath := "", byteOffset := 44 }], sz := 11, bytes := 48, z := Value.agg ([Value.int .u64 0, Value.int .u64 0, Value.int .u32 0, Value.int .u8 0, Value.int .u8 0, Value.int .u8 0, Value.int .u8 0, Value.nilFunc, Value.pointer none, Value.int .i32 0, Value.int .i32 0]).toArray }
theorem ok228 : TI.ok Tryd.prog 228 i228 := ⟨by kernel_rfl, Tryd.t228, by kernel_rfl, by kernel_rfl, by kernel_rfl, by kernel_rfl⟩
def i229 : TI := { u := .unsafePointer, sz := 1, bytes := 8, z := Value.pointer none }
theorem ok229 : TI.ok Tryd.prog 229 i229 := ⟨by kernel_rfl, Tryd.t229, by kernel_rfl, by kernel_rfl, by kernel_rfl, by kernel_rfl⟩
instance types : Types Tryd.prog where
  tbl := [(2, i2), (3, i3), (4, i4), (5, i5), (6, i6), (7, i7), (8, i8), (9, i9), (10, i10), (11, i11), (12, i12), (13, i13), (14, i14), (15, i15), (16, i16), (17, i17), (18, i18), (19, i19), (21, i21), (22, i22), (23, i23), (24, i24), (25, i25), (26, i26), (27, i27), (28, i28), (29, i29), (30, i30), (32, i32), (33, i33), (41, i41), (42, i42), (45, i45), (47, i47), (59, i59), (60, i60), (61, i61), (62, i62), (63, i63), (80, i80), (85, i85), (87, i87), (88, i88), (89, i89), (94, i94), (95, i95), (108, i108), (109, i109), (111, i111), (113, i113), (115, i115), (117, i117), (127, i127), (128, i128), (137, i137), (140, i140), (141, i141), (143, i143), (174, i174), (175, i175), (176, i176), (183, i183), (184, i184), (185, i185), (186, i186), (197, i197), (198, i198), (205, i205), (206, i206), (210, i210), (214, i214), (215, i215), (216, i216), (217, i217), (218, i218), (220, i220), (221, i221), (222, i222), (224, i224), (225, i225), (226, i226), (227, i227), (228, i228), (229, i229)]
  ok := TI.lk_all _ (AllOk.mem ⟨ok2, ok3, ok4, ok5, ok6, ok7, ok8, ok9, ok10, ok11, ok12, ok13, ok14, ok15, ok16, ok17, ok18, ok19, ok21, ok22, ok23, ok24, ok25, ok26, ok27, ok28, ok29, ok30, ok32, ok33, ok41, ok42, ok45, ok47, ok59, ok60, ok61, ok62, ok63, ok80, ok85, ok87, ok88, ok89, ok94, ok95, ok108, ok109, ok111, ok113, ok115, ok117, ok127, ok128, ok137, ok140, ok141, ok143, ok174, ok175, ok176, ok183, ok184, ok185, ok186, ok197, ok198, ok205, ok206, ok210, ok214, ok215, ok216, ok217, ok218, ok220, ok221, ok222, ok224, ok225, ok226, ok227, ok228, ok229, trivial⟩)
instance noGuard : NoGuard Tryd.prog where
  ts := [7, 8, 13, 14, 18, 19, 23, 24, 26, 27, 29, 30, 59, 60, 62, 63, 88, 89, 95, 108, 109, 127, 128, 140, 141, 175, 176, 183, 184, 185, 186, 198, 205, 206, 210, 214, 215, 216, 217, 218, 227, 228]
  ok := AllNG.mem ⟨Tryd.eqGuardType7, Tryd.eqGuardType8, Tryd.eqGuardType13, Tryd.eqGuardType14, Tryd.eqGuardType18, Tryd.eqGuardType19, Tryd.eqGuardType23, Tryd.eqGuardType24, Tryd.eqGuardType26, Tryd.eqGuardType27, Tryd.eqGuardType29, Tryd.eqGuardType30, Tryd.eqGuardType59, Tryd.eqGuardType60, Tryd.eqGuardType62, Tryd.eqGuardType63, Tryd.eqGuardType88, Tryd.eqGuardType89, Tryd.eqGuardType95, Tryd.eqGuardType108, Tryd.eqGuardType109, Tryd.eqGuardType127, Tryd.eqGuardType128, Tryd.eqGuardType140, Tryd.eqGuardType141, Tryd.eqGuardType175, Tryd.eqGuardType176, Tryd.eqGuardType183, Tryd.eqGuardType184, Tryd.eqGuardType185, Tryd.eqGuardType186, Tryd.eqGuardType198, Tryd.eqGuardType205, Tryd.eqGuardType206, Tryd.eqGuardType210, Tryd.eqGuardType214, Tryd.eqGuardType215, Tryd.eqGuardType216, Tryd.eqGuardType217, Tryd.eqGuardType218, Tryd.eqGuardType227, Tryd.eqGuardType228, trivial⟩
theorem mixed : Tryd.prog.follows .mixedOrders = true := by kernel_rfl
end Go.Fw.Tryd
